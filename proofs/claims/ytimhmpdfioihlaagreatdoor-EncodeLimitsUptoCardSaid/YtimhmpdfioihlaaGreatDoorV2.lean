/- A library of mine, for walks over abstract states: part 2. It imports the kit alone. -/
import Derived.Test.YtimhmpdfioihlaaGreatDoorV1
set_option linter.unusedSimpArgs false
set_option linter.unusedVariables false
namespace Go.Abs
open Go Go.RowKit
def ZbJ:V->Bool
 |.int _ _|.bool _|.str _|.nils|.view _ _ _|.vptr _|.clo _ _=>true
 |.con v=>v.oneCell'
 |.fn _ []=>true
 |_=>false
def ZcY:V->Bool
 |.fagg _=>true
 |.agg cs=>cs.all ZbJ
 |v=>ZbJ v
def ZCo:V->Bool
 |.fagg _=>true
 |.agg cs=>cs.all V.cell1
 |v=>v.cell1
def okV (flat:Bool)(v:V):Bool:=bif flat then ZcY v else ZCo v
def Zek (zc:List V)(n:Nat):List V:=(List.range n).map fun i=>zc.getD (i%zc.length) .any
def St.frzC (st:St):V->St
 |.ref k _ _ _=>st.freeze k
 |_=>st
def St.frzV (st:St):V->St
 |.agg cs=>cs.foldl St.frzC st
 |v=>st.frzC v
def ZGN (P:Program):Nat->TypeId->Nat->List (Nat×Nat)
 |0,_,_=>[]
 |d+1,t,b=>match P.underlying t with
  |some (.slice e)=>match P.info? e with
   |some i=>[(b,i.size)]
   |none=>[]
  |some (.struct fs)=>fs.toList.flatMap fun f=>ZGN P d f.type (b+f.offset)
  |_=>[]
def Zsy (P:Program)(st:St)(d:Nat)(t:TypeId)(sl:List (Nat×Nat)):Option (Prop×St):=
 match Zhn P t with
 |some z=>bif (Zaj z).all V.cell1&&decide (d<st.n)then some (True,((st.create d false (Zaj z)).put d (.ptr d 0)).ownL d sl)else none
 |none=>none
def ZEz (st:St)(d:Nat)(x:V)(sl:List (Nat×Nat)):Option (Prop×St):=
 bif ZCo x&&decide (d<st.n)then some (True,((st.create d false (ZaA x)).put d (.ptr d 0)).ownL d sl)else none
def Zsz (P:Program)(st:St)(t:TypeId)(x v:V)(sl:List (Nat×Nat)):Option (Prop×St):=
 match x,szT P t with
 |.ptr k off,some n=>match st.obj k with
  |some o=>bif okV o.flat v then
    some ((ZaA v).length=n/\off+n<=o.cs.length,(st.setObj k { o with cs:=ZnN o.cs off (ZaA v) }).ownL k (bif o.flat then[]else sl.map fun p=>(off+p.1,p.2)))
    else none
  |none=>none
 |_,_=>none
def ZnX (P:Program)(st:St)(d:Nat)(t:TypeId)(v:V):Option (Prop×St):=
 bif decide (d<st.n)then
  match v with
  |.ref k _ _ _=>some (True,(st.put d v).rename k d)
  |.nils=>match Zgf P t with
   |some (_,sz,_)=>some (True,(st.repl d { flat:=true,cs:=[] }).put d (.ref d 0 0 sz))
   |none=>some (True,st.put d v)
  |v=>some (True,st.put d v)
 else none
def ZsA (by_:Nat)(c:Int):Prop:=
 match by_ with
 |1=>c<=281474976710656
 |8=>c<=35184372088832
 |b=>(b:Int)*c<=281474976710656
theorem Zrh {b:Nat}{c:Int}(h:ZsA b c):(b:Int)*c<=281474976710656:=by
 unfold ZsA at h
 split at h<;>omega
def ZAw (P:Program)(st:St)(d:Nat)(t:TypeId)(l c:V):Option (Prop×St):=
 match Zgf P t,l,c with
 |some (e,sz,by_),.int _ l,.int _ c=>match Zhn P e with
  |some z=>bif (Zaj z).all ZbJ&&decide (0<(Zaj z).length)&&decide (d<st.n)then
    some (0<=l/\l<=c/\ZsA by_ c/\c<=9223372036854775807,(st.create d true (Zek (Zaj z) (l.toNat*sz))).put d (.ref d 0 l.toNat sz))
    else none
  |none=>none
 |_,_,_=>none
def ZgC:List (Nat×V)->Nat->Nat->Bool
 |[],k,len=>k==len
 |p::l,k,len=>p.1==k&&ZgC l (k+1) len
def Zcz:List (Nat×V)->List V
 |[]=>[]
 |p::l=>ZaA p.2++Zcz l
theorem Zl7 {sz len:Nat}: ∀(ps:List (Nat×V)) (cs r:List V) (c:Prop) (k:Nat),ZgC ps k len=true->Zgh (.each sz) cs ps=some (c,r)->c->cs.length=len*sz->k<=len->r=cs.take (k*sz)++Zcz ps
 |[],cs,r,c,k,hi,h,_,hl,_=>by
  simp only[ZgC,beq_iff_eq]at hi
  simp only[Zgh,Yac,Yai]at h
  rw[<- h.2,hi,<- hl];simp[Zcz]
 |(i,v)::ps,cs,r,c,k,hi,h,hc,hl,hk=>by
  simp only[ZgC,Yao,beq_iff_eq]at hi
  obtain⟨rfl,hi⟩:=hi
  simp only[Zgh]at h
  split at h<;>first|(cases h;done)|skip
  rename_i off n hpl _
  simp only[Plc.at,Yac,Yai]at hpl
  obtain⟨rfl,rfl⟩:=hpl
  split at h<;>first|(cases h;done)|skip
  rename_i c' r' hrest
  simp only[Yac,Yai]at h
  obtain⟨rfl,rfl⟩:=h
  obtain⟨⟨hn,hfit⟩,hc'⟩:=hc
  have hk1:i<len:=by
    have: ∀(l:List (Nat×V)) (k:Nat),ZgC l k len=true->k<=len:=by
     intro l
     induction l with
     |nil=>intro k h;simp[ZgC]at h;omega
     |cons p l ih=>intro k h;simp only[ZgC,Yao]at h;have:=ih _ h.2;omega
    exact this ps _ hi
  have hl2:(ZnN cs (i*sz) (ZaA v)).length=len*sz:=by
    simp only[ZnN,Yal,Yar,Yaw];omega
  have:=Zl7 ps _ _ _ (i+1) hi hrest hc' hl2 hk1
  rw[this]
  simp only[Zcz,ZnN]
  have e1:(cs.take (i*sz)).length=i*sz:=by rw[Yar];omega
  have e2:(i+1)*sz=(cs.take (i*sz)++ZaA v).length:=by rw[Yal,e1,hn,Nat.succ_mul]
  rw[e2,List.take_left,Ya6]
def ZsB (P:Program)(st:St)(d:Nat)(t:TypeId)(len:Nat)(ps:List (Nat×Operand)):Option (Prop×St):=
 let st:=ps.foldl (fun st p=>st.frzV (st.ev p.2)) st
 match Zgf P t with
 |some (e,sz,_)=>match Zhn P e with
  |some z=>match Zgh (.each sz) (Zek (Zaj z) (len*sz)) (ZaR st ps)with
   |some (c,cs)=>bif (Zaj z).all ZbJ&&decide (0<(Zaj z).length)&&((ZaR st ps).all fun p=>ZcY p.2)&&decide (d<st.n)&&decide (len*sz<=16777216)then
      some (c,(st.create d true (bif ZgC (ZaR st ps) 0 len then Zcz (ZaR st ps)else cs)).put d (.ref d 0 len sz))else none
   |none=>none
  |none=>none
 |none=>none
def ZEA (P:Program)(st:St)(tx:TypeId)(sz:Nat):V->Option (Nat×List V)
 |.nils=>bif (Zgf P tx).isSome then some (0,[])else none
 |.view n s cs=>bif (Zgf P tx).isSome&&s==sz then some (n,cs)else none
 |.ref k off n s=>bif (Zgf P tx).isSome&&s==sz then(match st.obj k with
  |some o=>bif o.flat then some (n,(o.cs.drop off).take (n*s))else none
  |none=>none)else none
 |.str s=>bif ZiH P tx&&sz==1 then some (s.length,s.map Zgg)else none
 |_=>none
def ZsC (st:St)(d sz:Nat):V->Option (Nat×Nat×List V)
 |.nils=>some (d,0,[])
 |.ref k off n s=>bif s==sz then(match st.obj k with
  |some o=>bif o.flat then some (k,n,(o.cs.drop off).take (n*s))else none
  |none=>none)else none
 |_=>none
def ZiP (by_:Nat)(n:Nat):Prop:=
 match by_ with
 |1=>n<=140737488355328
 |8=>n<=17592186044416
 |24=>n<=5864062014805
 |48=>n<=2932031007402
 |b=>n*b<=140737488355328
theorem Zri {b n:Nat}(h:ZiP b n):n*b<=140737488355328:=by
 unfold ZiP at h
 split at h<;>omega
def ZnY (P:Program)(st:St)(d:Nat)(t tx:TypeId)(s x:V):Option (Prop×St):=
 match Zgf P t with
 |some (e,sz,by_)=>match ZsC st d sz s,ZEA P st tx sz x with
  |some (k,n,old),some (m,xs)=>bif (match Zhn P e with|some z=>(Zaj z).length==sz|none=>false)&&decide (0<by_)&&decide (d<st.n)then
    some (ZiP by_ (n+m),(st.repl k { flat:=true,cs:=old++xs }).put d (.ref k 0 (n+m) sz))else none
  |_,_=>none
 |none=>none
def ZsD (P:Program)(st:St)(d:Nat)(src dst:TypeId)(x:V):Option (Prop×St):=
 match x,Zgf P dst with
 |.str s,some (e,_,_)=>match ZhW P e with
  |some .u8=>bif ZiH P src&&decide (d<st.n)then some (True,(st.create d true (s.map Zgg)).put d (.ref d 0 s.length 1))else none
  |_=>none
 |_,_=>none
section
variable {P:Program}{C:Ctx}{S:Nat->Prop}{β:Nat->Option BI}{st:St}{a:Act}{w w':World}
def Zel (S:Nat->Prop)(w:World)(β:Nat->Option BI)(flat:Bool)(v:V)(u:Value):Prop:=
 u.oneCell'=true/\(if flat=true then v.cell1=true/\FR S w v u else VR S w β v u)
theorem Zem {v:V}(h:ZbJ v=true):v.cell1=true:=by
 cases v<;>first|rfl|exact h|(simp[ZbJ]at h)
theorem ZgD {v:V}{u:Value}(h:ZbJ v=true)(hv:VR S w β v u):FR S w v u:=by
 cases hv<;>first
  |assumption
  |(simp[ZbJ]at h;done)
  |skip
 all_goals
  rename_i f cap us hl hr
  cases cap with
  |nil=>
   have:us= #[]:=by simpa using hl.symm
   subst this
   exact .fn f
  |cons=>simp[ZbJ]at h
theorem Zen {v:V}{u:Value}(flat:Bool)(h:VR S w β v u)(hv:okV flat v=true):RRs (Zel S w β flat) (ZaA v) u.cells:=by
 have one: ∀{v:V} {u:Value},u.oneCell'=true->Zel S w β flat v u->RRs (Zel S w β flat) [v] u.cells:=by
  intro v u h2 h
  have:u.cells= #[u]:=by cases u<;>first|rfl|(simp[Value.oneCell']at h2)
  rw[this]
  refine⟨rfl,?_⟩
  intro j v' u' hv hu
  cases j with
  |zero=>simp at hv hu;subst hv hu;exact h
  |succ j=>simp at hv
 have scal: ∀{v:V} {u:Value},VR S w β v u->(if flat=true then ZbJ v=true else v.cell1=true)->Zel S w β flat v u:=by
  intro v u h hv
  by_cases hf:flat=true
  ·rw[if_pos hf]at hv
   exact⟨h.oneCell (Zem hv),by rw[if_pos hf];exact⟨Zem hv,ZgD hv h⟩⟩
  ·rw[if_neg hf]at hv
   exact⟨h.oneCell hv,by rw[if_neg hf];exact h⟩
 have one': ∀{v:V} {u:Value},VR S w β v u->(if flat=true then ZbJ v=true else v.cell1=true)->RRs (Zel S w β flat) [v] u.cells:=fun h hv=>one (scal h hv).1 (scal h hv)
 cases v with
 |agg cs=>
  obtain⟨us,rfl,hl,hr⟩:=VR.agg_inv h
  refine⟨hl,fun j v u hj hu=>scal (hr j v u hj hu) ?_⟩
  have hmem:=Ya0 hj
  cases flat with
  |true=>simp only[okV,cond_true,ZcY,Yat]at hv;rw[if_pos rfl];exact hv v hmem
  |false=>simp only[okV,cond_false,ZCo,Yat]at hv;rw[if_neg (by simp)];exact hv v hmem
 |fagg cs=>
  obtain⟨us,rfl,hl,hr,h1⟩:=VR.fagg_inv h
  refine⟨hl,fun j v u hj hu=> ?_⟩
  have hfr:=hr j v u hj hu
  have hc1:=h1 j v hj
  refine⟨hfr.oneCell hc1,?_⟩
  split
  ·exact⟨hc1,hfr⟩
  ·exact .flat hfr
 |_=>
  refine one' h ?_
  cases flat with
  |true=>rw[if_pos rfl];simpa[okV,ZcY]using hv
  |false=>rw[if_neg (by simp)];simpa[okV,ZCo]using hv
theorem ZhZ (z:Value)(flat:Bool)(h:(Zaj z).all V.cell1=true):RRs (Zel S w β flat) (Zaj z) z.cells:=by
 refine⟨by simp[Zaj],?_⟩
 intro j v u hv hu
 have hc1:v.cell1=true:=by
  rw[Yat]at h
  exact h v (Ya0 hv)
 simp only[Zaj,Yas,Yaj]at hv
 obtain⟨u0,hu0,rfl⟩:=hv
 have:u0=u:=by
  rw[Array.getElem?_toList]at hu0
  rw[hu0]at hu;exact Option.some.inj hu
 subst this
 have hfr:=Zhm S w u0
 refine⟨hfr.oneCell hc1,?_⟩
 split
 ·exact⟨hc1,hfr⟩
 ·exact .flat hfr
def ZGO (P:Program)(o:Oper)(a a':Act)(w w':World):Prop:=
 (∃v,(execOp a.eval o).run P w= .ok (.value v) w'/\a'=a.put o.dst v)\/((execOp a.eval o).run P w= .ok .skip w'/\a'=a.put o.dst undef)
def Zsi (C:Ctx)(P:Program)(o:Oper)(a:Act)(w:World)(st':St):Prop:=
 ∃a' w' S' β',ZGO P o a a' w w'/\SR C S' β' st' a' w'
theorem ZnZ (n:Nat):ZB8 (0,0) n:=⟨Nat.le_refl _,fun j _ h=>by have:=h.2;simp at this⟩
theorem SR.newobj (h:SR C S β st a w){d:Nat}(hd:d<st.n)(flat:Bool)(cs:List V)(cells:Array Value)(e:TypeId)(fz:Nat×Nat)(n:Nat)(hfz:ZB8 fz cells.size)(hfit:cs.length<=cells.size)
 (hcs: ∀(j:Nat) (v:V),cs[j]? = some v-> ∃u,cells[j]? = some u/\Zel S w β flat v u) {v:V} {u:Value} (hv: ∀β',β' d=some ⟨w.heap.size,0,cells.size,cs.length⟩-> ∀S w',VR S w' β' v u) :
 ∃β',SR C S β' ((st.create d flat cs).put d v) (a.put (some d) u) { w with heap:=w.heap.push (.cells cells e fz),drawn:=n }:=
 ⟨_,(h.create d flat cs cells e fz n hfz hfit hcs).put (by exact hd) (hv _ (ZaU _ _ _) _ _)⟩
theorem ZdZ {R:V->Value->Prop}{cs:List V}{us:Array Value}(h:RRs R cs us): ∀(j:Nat) (v:V),cs[j]? = some v-> ∃u,us[j]? = some u/\R v u:=by
 intro j v hv
 have hj:j<us.size:=by rw[<- h.1];exact(Yak.1 hv).1
 exact⟨us[j],by simp[hj],h.2 j v _ hv (by simp[hj])⟩
theorem ZkI {d:Nat}{n sz len:Nat}: ∀β':Nat->Option BI,β' d=some ⟨n,0,sz,len⟩-> ∀S w',VR S w' β' (.ptr d 0) (.pointer (some ⟨n,0,none⟩)):=fun β' hb S w'=>by
 have:=VR.ptr (S:=S) (w:=w') (β:=β') d 0 _ hb
 simpa using this
theorem Zl8 {o:Oper}{t:TypeId}{d:Nat}{sl:List (Nat×Nat)}{c:Prop}{st':St}(ho:o.op= .alloc t)(hd:o.dst=some d)(h:Zsy P st d t sl=some (c,st'))(hsr:SR C S β st a w):Zsi C P o a w st':=by
 unfold Zsy at h
 split at h<;>first|(cases h;done)|skip
 rename_i z hz
 cases hb:(Zaj z).all V.cell1&&decide (d<st.n)with
 |false=>rw[hb]at h;cases h
 |true=>
  rw[hb]at h
  simp only[cond_true,Yac,Yai]at h
  obtain⟨_,rfl⟩:=h
  simp only[Yao,Yaz]at hb
  unfold Zhn at hz
  split at hz<;>first|(cases hz;done)|skip
  rename_i i hi
  have hR:=ZhZ (S:=S) (w:=w) (β:=β) z false hb.1
  obtain⟨β',hs⟩:=hsr.newobj hb.2 false (Zaj z) z.cells t (0,0) w.drawn (ZnZ _) (Nat.le_of_eq hR.1) (ZdZ hR) ZkI
  obtain⟨β'',hs'⟩:=SR.ownL d sl hs
  refine⟨_,_,S,β'',.inl ⟨.pointer (some ⟨w.heap.size,0,none⟩),?_,by rw[hd]⟩,hs'⟩
  unfold execOp
  simp[ho,Instr.alloc,zeroValue,typeInfo,hi,hz,newVar,newRow]
theorem Zrj {o:Oper}{t:TypeId}{x:Operand}{d:Nat}{sl:List (Nat×Nat)}{c:Prop}{st':St}(ho:o.op= .box t x)(hd:o.dst=some d)(h:ZEz st d (st.ev x) sl=some (c,st'))(hsr:SR C S β st a w):Zsi C P o a w st':=by
 unfold ZEz at h
 cases hb:ZCo (st.ev x)&&decide (d<st.n)with
 |false=>rw[hb]at h;cases h
 |true=>
  rw[hb]at h
  simp only[cond_true,Yac,Yai]at h
  obtain⟨_,rfl⟩:=h
  simp only[Yao,Yaz]at hb
  have hR:=Zen false (Zag hsr x) (by simpa[okV]using hb.1)
  obtain⟨β',hs⟩:=hsr.newobj hb.2 false (ZaA (st.ev x)) (a.eval x).cells t (0,0) w.drawn (ZnZ _) (Nat.le_of_eq hR.1) (ZdZ hR) ZkI
  obtain⟨β'',hs'⟩:=SR.ownL d sl hs
  refine⟨_,_,S,β'',.inl ⟨.pointer (some ⟨w.heap.size,0,none⟩),?_,by rw[hd]⟩,hs'⟩
  unfold execOp
  simp[ho,Instr.box,newVar,newRow]
theorem Zl9 {o:Oper}{t:TypeId}{x y:Operand}{sl:List (Nat×Nat)}{c:Prop}{st':St}(ho:o.op= .store t x y)(hd:o.dst=none)(h:Zsz P st t (st.ev x) (st.ev y) sl=some (c,st'))(hc:c)(hsr:SR C S β st a w):Zsi C P o a w st':=by
 unfold Zsz at h
 split at h<;>first|(cases h;done)|skip
 rename_i k off n hx hn
 split at h<;>first|(cases h;done)|skip
 rename_i ob hob
 cases hb:okV ob.flat (st.ev y)with
 |false=>rw[hb]at h;cases h
 |true=>
  rw[hb]at h
  simp only[cond_true,Yac,Yai]at h
  obtain⟨rfl,rfl⟩:=h
  obtain⟨hlen,hfit⟩:=hc
  have hxv:=Zag hsr x
  rw[hx]at hxv
  obtain⟨bi,hbi,hax⟩:=VR.ptr_inv hxv
  have hR:=Zen ob.flat (Zag hsr y) hb
  rcases hsr.objs k ob hob with⟨_,_,h3⟩|⟨bi',cur,e,fz,hbi',hor⟩
  ·rw[h3]at hbi;cases hbi
  rw[hbi']at hbi;cases hbi
  have hus:(a.eval y).cells.toList.length=n:=by rw[Array.length_toList,<- hR.1,hlen]
  have hst:=hor.stored (hsr.own k bi (by simp[hob]) hbi').1 off (ZaA (st.ev y)) (a.eval y).cells.toList (by simpa using hR.1) (by omega)
    (fun j v u hv hu=>hR.2 j v u hv (by simpa using hu))
  have hfits:=hor.fits
  have hrun:=Zdz (P:=P) hor (bi.off+off) (a.eval y).cells.toList (by omega) (fun u hu=>by
    obtain⟨j,hj⟩:=List.mem_iff_getElem?.1 hu
    have hj':j<(ZaA (st.ev y)).length:=by have:=(Yak.1 hj).1;omega
    exact(hR.2 j _ u (Yab hj') (by simpa using hj)).1)
  obtain⟨hos,htape,hout⟩:=Zej bi.blk (a.eval y).cells.toList (bi.off+off) w
  have hs:=hsr.write k { ob with cs:=ZnN ob.cs off (ZaA (st.ev y)) } (by simp[hob]) hos htape hout (Zei _ _ _ _).symm (fun b _ hbb=>ZbP _ _ _ _ _ (hbb bi hbi')) (.inr ⟨bi,_,e,fz,hbi',hst⟩)
  obtain⟨β'',hs'⟩:=SR.ownL k (bif ob.flat then[]else sl.map fun p=>(off+p.1,p.2)) hs
  refine⟨_,_,S,β'',.inr ⟨?_,by rw[hd];rfl⟩,hs'⟩
  unfold execOp
  simp only[ho,Instr.storeAt,hax,Instr.sureAddr,storeVar,Sem.run_bind,Sem.run_pure,Result.andThen_ok,Zdg hn]
  rw[if_neg (by simp at hus;omega)]
  simp only[hrun,Result.andThen_ok]
theorem SR.frzC (h:SR C S β st a w)(v:V): ∃S',SR C S' β (st.frzC v) a w:=by
 unfold St.frzC
 split
 ·obtain⟨S',_,h'⟩:=h.freeze _;exact⟨S',h'⟩
 ·exact⟨S,h⟩
theorem SR.frzL: ∀(cs:List V) {S:Nat->Prop} {st:St},SR C S β st a w-> ∃S',SR C S' β (cs.foldl St.frzC st) a w
 |[],S,_,h=>⟨S,h⟩
 |v::cs,_,_,h=>by obtain⟨S',h'⟩:=h.frzC v;exact SR.frzL cs h'
theorem SR.frzV (h:SR C S β st a w)(v:V): ∃S',SR C S' β (st.frzV v) a w:=by
 unfold St.frzV
 split
 ·exact SR.frzL _ h
 ·exact h.frzC _
theorem SR.frzP: ∀(ps:List (Nat×Operand)) {S:Nat->Prop} {st:St},SR C S β st a w-> ∃S',SR C S' β (ps.foldl (fun st p=>st.frzV (st.ev p.2)) st) a w
 |[],S,_,h=>⟨S,h⟩
 |p::ps,_,_,h=>by obtain⟨S',h'⟩:=h.frzV _;exact SR.frzP ps h'
theorem ZkJ {o:Oper}{x:Operand}{d:Nat}{c:Prop}{st':St}(ho:o.op= .assign x)(hd:o.dst=some d)(h:ZnX P st d o.type (st.ev x)=some (c,st'))(hsr:SR C S β st a w):Zsi C P o a w st':=by
 unfold ZnX at h
 cases hb:decide (d<st.n)with
 |false=>rw[hb]at h;cases h
 |true=>
  rw[hb]at h
  simp only[cond_true]at h
  have hd':=of_decide_eq_true hb
  have hrun:(execOp a.eval o).run P w= .ok (.value (a.eval x)) w:=by unfold execOp;simp[ho]
  have hx:=Zag hsr x
  split at h
  ·rename_i k off n sz hv
   simp only[Yac,Yai]at h
   obtain⟨_,rfl⟩:=h
   obtain⟨β',hs⟩:=(hsr.put hd' hx).rename k d
   exact⟨_,w,S,β',.inl ⟨_,hrun,by rw[hd]⟩,hs⟩
  ·rename_i hv
   split at h
   ·rename_i e sz by_ he
    simp only[Yac,Yai]at h
    obtain⟨_,rfl⟩:=h
    rw[hv]at hx
    obtain⟨A,hA⟩:=VR.nils_inv hx
    have h1:=(hsr.empty d).put (d:=d) (v:= .ref d 0 0 sz) (u:=a.eval x) hd' (by rw[hA];exact .ref _ _ _ _ _ _ (.inl ⟨rfl,rfl⟩))
    exact⟨_,w,S,_,.inl ⟨_,hrun,by rw[hd]⟩,h1⟩
   ·simp only[Yac,Yai]at h
    obtain⟨_,rfl⟩:=h
    exact⟨_,w,S,β,.inl ⟨_,hrun,by rw[hd]⟩,hsr.put hd' hx⟩
  ·simp only[Yac,Yai]at h
   obtain⟨_,rfl⟩:=h
   exact⟨_,w,S,β,.inl ⟨_,hrun,by rw[hd]⟩,hsr.put hd' hx⟩
theorem Zma {z:Value}{n:Nat}{flat:Bool}(hz:RRs (Zel S w β flat) (Zaj z) z.cells)(hpos:n≠0->0<z.cells.size) :
 RRs (Zel S w β flat) (Zek (Zaj z) n) ((Array.range n).map (fun i=>z.cells[i%z.cells.size]!)):=by
 refine⟨by simp[Zek],?_⟩
 intro j v u hv hu
 have hj:j<n:=by have:=(Yak.1 hv).1;simpa[Zek]using this
 have hp:=hpos (by omega)
 have hm:j%z.cells.size<z.cells.size:=Nat.mod_lt _ hp
 simp only[Zek,Yas,List.getElem?_range hj,Option.map_some,Yac]at hv
 simp[hj]at hu
 subst hu
 have hlz:=hz.1
 have h1:(Zaj z)[j%z.cells.size]? = some v:=by
  rw[<- hv,hlz]
  exact Zcy (by omega)
 have h2:z.cells[j%z.cells.size]? = some (z.cells[j%z.cells.size]!):=by
  simp[hm]
 exact hz.2 _ _ _ h1 h2
theorem ZdK {z:Value}(h:(Zaj z).all ZbJ=true):RRs (Zel S w β true) (Zaj z) z.cells:=by
 refine ZhZ z true ?_
 rw[Yat]at h ⊢
 exact fun v hv=>Zem (h v hv)
theorem Zn0 {o:Oper}{t:TypeId}{l cp:Operand}{d:Nat}{c:Prop}{st':St}(ho:o.op= .makeSlice t l cp)(hd:o.dst=some d)(h:ZAw P st d t (st.ev l) (st.ev cp)=some (c,st'))(hc:c)(hsr:SR C S β st a w):Zsi C P o a w st':=by
 unfold ZAw at h
 split at h<;>first|(cases h;done)|skip
 rename_i e sz by_ kl li kc ci he hl hcp
 split at h<;>first|(cases h;done)|skip
 rename_i z hz
 cases hb:(Zaj z).all ZbJ&&decide (0<(Zaj z).length)&&decide (d<st.n)with
 |false=>rw[hb]at h;cases h
 |true=>
  rw[hb]at h
  simp only[cond_true,Yac,Yai]at h
  obtain⟨rfl,rfl⟩:=h
  simp only[Yao,Yaz]at hb
  obtain⟨hu,i,hi,rfl,rfl⟩:=Zaz he
  have hz':i.zero=some z:=by unfold Zhn at hz;rw[hi]at hz;exact hz
  obtain⟨h0,h1,h2,h3⟩:=hc
  replace h2:=Zrh h2
  have hrun:=run_make (P:=P) w t e i z hu hi hz' kl kc li ci h0 h1 h2 h3
  have hvl:=VR.int_inv (hl▸Zag hsr l)
  have hvc:=VR.int_inv (hcp▸Zag hsr cp)
  have hRz:=ZdK (S:=S) (w:=w) (β:=β) hb.1.1
  have hne:ci.toNat*i.size≠0->0<z.cells.size:=fun _=>by rw[<- hRz.1];exact hb.1.2
  ·have hR:RRs (Zel S w β true) (Zek (Zaj z) (ci.toNat*i.size)) (madeCells z.cells (ci.toNat*i.size)):=Zma hRz hne
   have hle:li.toNat*i.size<=ci.toNat*i.size:=Nat.mul_le_mul_right _ (by omega)
   have hpt: ∀(j:Nat) (v:V),(Zek (Zaj z) (li.toNat*i.size))[j]? = some v-> ∃u,(madeCells z.cells (ci.toNat*i.size))[j]? = some u/\Zel S w β true v u:=by
     intro j v hv
     have hj:j<li.toNat*i.size:=by have:=(Yak.1 hv).1;simpa[Zek]using this
     refine ZdZ hR j v ?_
     rw[<- hv]
     simp[Zek,hj,show j<ci.toNat*i.size by omega]
   have hsz:(madeCells z.cells (ci.toNat*i.size)).size=ci.toNat*i.size:=by simp[madeCells]
   obtain⟨β',hs⟩:=hsr.newobj hb.2 true (Zek (Zaj z) (li.toNat*i.size)) (madeCells z.cells (ci.toNat*i.size)) e (0,0) w.drawn (ZnZ _) (by rw[hsz];simpa[Zek]using hle) hpt
     (v:= .ref d 0 li.toNat i.size) (u:= .slice (some ⟨w.heap.size,0,none⟩) li.toNat ci.toNat) (fun β' hb' S' w''=>by
      refine .ref _ _ _ _ _ _ (.inr ⟨_,hb',by simp,by omega,?_,?_⟩)
      ·simp[hsz]
      ·simp[Zek])
   refine⟨_,_,S,β',.inl ⟨_,?_,by rw[hd]⟩,hs⟩
   unfold execOp
   simp only[ho,hvl,hvc,Sem.run_bind,hrun,Result.andThen_ok,Sem.run_pure]
   rfl
theorem Zcb {A:Option Addr}{n c size:Nat}{news:List Value}{w:World}(hl:news.length=n*size)(h:news≠[]-> ∃b o,A=some ⟨b,o,none⟩/\ ∀(j:Nat) (v:Value),news[j]? = some v->w.cell? ⟨b,o+j,none⟩=some v) :
 (Builtin.firstCells size n (.slice A n c)).run P w= .ok news.toArray w:=by
 by_cases hne:news=[]
 ·subst hne
  cases A with
  |none=>exact run_firstCells_none (P:=P) w size n n c
  |some ad=>exact run_firstCells_some (P:=P) w size n ad n c [] hl (by intro j v hj;simp at hj)
 ·obtain⟨b,o,rfl,hc⟩:=h hne
  exact run_firstCells_some (P:=P) w size n ⟨b,o,none⟩ n c news hl (fun j v hj=>by rw[ZaP];exact hc j v hj)
theorem Zmb {k off n sz c:Nat}{A:Option Addr}{o:ZaK}(hsr:SR C S β st a w)(ho:st.obj k=some o)(hfl:o.flat=true)
 (h:(n=0/\c=0)\/ ∃bi,β k=some bi/\A=some ⟨bi.blk,bi.off+off,none⟩/\n<=c/\bi.off+off+c*sz<=bi.tot/\off+n*sz<=bi.len) :
 ∃news:List Value,news.length=n*sz/\((o.cs.drop off).take (n*sz)).length=n*sz/\(∀(j:Nat) (v:V) (u:Value),((o.cs.drop off).take (n*sz))[j]? = some v->news[j]? = some u->Zel S w β true v u)/\
  (news≠[]-> ∃b oo,A=some ⟨b,oo,none⟩/\ ∀(j:Nat) (v:Value),news[j]? = some v->w.cell? ⟨b,oo+j,none⟩=some v):=by
 rcases h with⟨rfl,rfl⟩|⟨bi,hbi,rfl,hn,hroom,hfit⟩
 ·exact⟨[],by simp,by simp,fun j v u hv=>by simp at hv,fun h=>absurd rfl h⟩
 ·rcases hsr.objs k o ho with⟨_,_,h3⟩|⟨bi',cur,e,fz,hbi',hor⟩
  ·rw[h3]at hbi;cases hbi
  rw[hbi']at hbi;cases hbi
  have hlen:=hor.len
  have hL:((o.cs.drop off).take (n*sz)).length=n*sz:=by rw[Yar,Yaw];omega
  have hget: ∀j,j<n*sz-> ∃v,o.cs[off+j]? = some v:=fun j hj=>⟨_,Yab (by omega)⟩
  refine⟨(List.range (n*sz)).map fun j=>cur.getD (bi.off+off+j) undef,by simp,hL,?_,fun _=>⟨_,_,rfl,?_⟩⟩
  ·intro j v u hv hu
   obtain⟨hj,hv⟩:=ZbC hv
   rw[Ya2]at hv
   obtain⟨u',hu',h1,hr⟩:=hor.cells _ _ hv
   rw[<- Nat.add_assoc]at hu'
   simp[hj,Yan,hu']at hu
   subst hu
   exact⟨h1,by rw[if_pos rfl];rw[if_pos hfl]at hr;exact hr⟩
  ·intro j v hj
   have hjn:j<n*sz:=by have:=(Yak.1 hj).1;simpa using this
   obtain⟨v0,hv0⟩:=hget j hjn
   obtain⟨u',hu',_,_⟩:=hor.cells _ _ hv0
   rw[<- Nat.add_assoc]at hu'
   rw[Zbc hor,hu']
   simp[hjn,Yan,hu']at hj
   rw[hj]
theorem ZsE {tx:TypeId}{sz m:Nat}{x:V}{ux:Value}{xs:List V}(h:ZEA P st tx sz x=some (m,xs))(hsr:SR C S β st a w)(hx:VR S w β x ux) :
 ∃(news:List Value) (dx:TypeDesc),P.underlying tx=some dx/\Zj4 dx=false/\news.length=m*sz/\xs.length=m*sz/\
  (∀(j:Nat) (v:V) (u:Value),xs[j]? = some v->news[j]? = some u->Zel S w β true v u)/\
  (∀w0:World,(Builtin.lenOf ux).run P w0= .ok m w0)/\(∀d,(Builtin.firstCells sz m ux).run P { w with drawn:=d }= .ok news.toArray { w with drawn:=d }):=by
 have hel: ∀{tx:TypeId},(Zgf P tx).isSome=true-> ∃dx,P.underlying tx=some dx/\Zj4 dx=false:=by
  intro tx h
  obtain⟨⟨e,s,b⟩,he⟩:=Yax.1 h
  exact⟨_,(Zaz he).1,rfl⟩
 unfold ZEA at h
 split at h<;>first|(cases h;done)|skip
 ·cases hb:(Zgf P tx).isSome with
  |false=>rw[hb]at h;cases h
  |true=>
   rw[hb]at h
   simp only[cond_true,Yac,Yai]at h
   obtain⟨rfl,rfl⟩:=h
   obtain⟨dx,h1,h2⟩:=hel hb
   obtain⟨A,rfl⟩:=VR.nils_inv hx
   exact⟨[],dx,h1,h2,by simp,by simp,fun j v u hv=>by simp at hv,fun w0=>by simp[Builtin.lenOf],fun d=>Zcb (by simp) (fun h=>absurd rfl h)⟩
 ·rename_i n s cs
  cases hb:(Zgf P tx).isSome&&s==sz with
  |false=>rw[hb]at h;cases h
  |true=>
   rw[hb]at h
   simp only[cond_true,Yac,Yai]at h
   obtain⟨rfl,rfl⟩:=h
   simp only[Yao,beq_iff_eq]at hb
   obtain⟨hb,rfl⟩:=hb
   obtain⟨dx,h1,h2⟩:=hel hb
   obtain⟨A,c,rfl,hnc,hl,us,ha,hr,hc1⟩:=VR.view_inv hx
   have hget: ∀j,j<n*s-> ∃v,cs[j]? = some v:=fun j hj=>⟨_,Yab (by omega)⟩
   refine⟨(List.range (n*s)).map us,dx,h1,h2,by simp,hl,?_,fun w0=>by simp[Builtin.lenOf],fun d=>Zcb (by simp) (fun hne=> ?_)⟩
   ·intro j v u hv hu
    have hj:j<n*s:=by have:=(Yak.1 hv).1;omega
    simp[hj]at hu
    subst hu
    exact⟨(hr j v hv).oneCell (hc1 j v hv),by rw[if_pos rfl];exact⟨hc1 j v hv,hr j v hv⟩⟩
   ·have hne':cs≠[]:=by
      intro e;subst e
      simp at hl;rw[<- hl]at hne;simp at hne
    obtain⟨b,o,rfl,_,hcell⟩:=ha hne'
    refine⟨b,o,rfl,fun j v hj=> ?_⟩
    have hjn:j<n*s:=by have:=(Yak.1 hj).1;simpa using this
    obtain⟨v0,hv0⟩:=hget j hjn
    have:=hcell j v0 hv0
    simp[hjn]at hj
    rw[<- hj];exact this
 ·rename_i k off n s
  cases hb:(Zgf P tx).isSome&&s==sz with
  |false=>rw[hb]at h;cases h
  |true=>
   rw[hb]at h
   simp only[cond_true]at h
   split at h<;>first|(cases h;done)|skip
   rename_i o ho
   cases hfl:o.flat with
   |false=>rw[hfl]at h;cases h
   |true=>
    rw[hfl]at h
    simp only[cond_true,Yac,Yai]at h
    obtain⟨rfl,rfl⟩:=h
    simp only[Yao,beq_iff_eq]at hb
    obtain⟨hb,rfl⟩:=hb
    obtain⟨dx,h1,h2⟩:=hel hb
    obtain⟨A,c,rfl,hcase⟩:=VR.ref_inv hx
    obtain⟨news,hn1,hn2,hn3,hn4⟩:=Zmb hsr ho hfl hcase
    exact⟨news,dx,h1,h2,hn1,hn2,hn3,fun w0=>by simp[Builtin.lenOf],fun d=>Zcb hn1 hn4⟩
 ·rename_i s
  cases hb:ZiH P tx&&sz==1 with
  |false=>rw[hb]at h;cases h
  |true=>
   rw[hb]at h
   simp only[cond_true,Yac,Yai]at h
   obtain⟨rfl,rfl⟩:=h
   simp only[Yao,beq_iff_eq]at hb
   obtain⟨hb,rfl⟩:=hb
   rw[VR.str_inv hx]
   have e1:(⟨s.toArray⟩:ByteArray).size=s.length:=by simp[ByteArray.size]
   refine⟨s.map fun b=> .int .u8 (b.toNat:Int),.string,ZaL hb,rfl,by simp,by simp,?_,fun w0=>by simp[Builtin.lenOf,e1],fun d=> ?_⟩
   ·intro j v u hv hu
    simp only[Yas,Yaj]at hv hu
    obtain⟨b,hb',rfl⟩:=hv
    obtain⟨b',hb'',rfl⟩:=hu
    rw[hb']at hb'';cases hb''
    exact⟨rfl,by rw[if_pos rfl];exact⟨rfl,.int _ _⟩⟩
   ·simp only[Builtin.firstCells,Sem.run_pure]
    have e2:(⟨s.toArray⟩:ByteArray).extract 0 s.length=⟨s.toArray⟩:=by
      apply ByteArray.ext
      simp[ByteArray.data_extract]
    rw[e2]
    simp
theorem ZkK {d sz k n:Nat}{s:V}{us:Value}{old:List V}(h:ZsC st d sz s=some (k,n,old))(hsr:SR C S β st a w)(hs:VR S w β s us) :
 ∃(A:Option Addr) (c:Nat) (olds:List Value),us= .slice A n c/\n<=c/\olds.length=n*sz/\old.length=n*sz/\(∀(j:Nat) (v:V) (u:Value),old[j]? = some v->olds[j]? = some u->Zel S w β true v u)/\
  (olds≠[]-> ∃b oo,A=some ⟨b,oo,none⟩/\ ∀(j:Nat) (v:Value),olds[j]? = some v->w.cell? ⟨b,oo+j,none⟩=some v)/\
  ((n=0/\c=0)\/ ∃off o bi,st.obj k=some o/\o.flat=true/\old=(o.cs.drop off).take (n*sz)/\β k=some bi/\A=some ⟨bi.blk,bi.off+off,none⟩/\bi.off+off+c*sz<=bi.tot/\off+n*sz<=bi.len):=by
 unfold ZsC at h
 split at h<;>first|(cases h;done)|skip
 ·simp only[Yac,Yai]at h
  obtain⟨rfl,rfl,rfl⟩:=h
  obtain⟨A,rfl⟩:=VR.nils_inv hs
  exact⟨A,0,[],rfl,Nat.le_refl _,by simp,by simp,fun j v u hv=>by simp at hv,fun h=>absurd rfl h,.inl ⟨rfl,rfl⟩⟩
 ·rename_i k' off n' s'
  cases hb:s'==sz with
  |false=>rw[hb]at h;cases h
  |true=>
   rw[hb]at h
   simp only[cond_true]at h
   split at h<;>first|(cases h;done)|skip
   rename_i o ho
   cases hfl:o.flat with
   |false=>rw[hfl]at h;cases h
   |true=>
    rw[hfl]at h
    simp only[cond_true,Yac,Yai]at h
    obtain⟨rfl,rfl,rfl⟩:=h
    obtain rfl:s'=sz:=by simpa using hb
    obtain⟨A,c,rfl,hcase⟩:=VR.ref_inv hs
    obtain⟨olds,hn1,hn2,hn3,hn4⟩:=Zmb hsr ho hfl hcase
    have hnc:n'<=c:=by rcases hcase with⟨h1,h2⟩|⟨bi,_,_,h3,_⟩<;>omega
    refine⟨A,c,olds,rfl,hnc,hn1,hn2,hn3,hn4,?_⟩
    rcases hcase with h1|⟨bi,hbi,hA,h3,h4,h5⟩
    ·exact .inl h1
    ·exact .inr ⟨off,o,bi,ho,hfl,rfl,hbi,hA,h4,h5⟩
theorem ZkL {o:Oper}{t tx:TypeId}{s x:Operand}{d:Nat}{c:Prop}{st':St}(ho:o.op= .call { callee:= .builtin .append,args:= #[s,x],argTypes:= #[t,tx] })(hd:o.dst=some d)
 (h:ZnY P st d t tx (st.ev s) (st.ev x)=some (c,st')) (hc:c) (hsr:SR C S β st a w):Zsi C P o a w st':=by
 unfold ZnY at h
 split at h<;>first|(cases h;done)|skip
 rename_i e sz by_ he
 split at h<;>first|(cases h;done)|skip
 rename_i k n old m xs hhead hxs
 cases hb:(match Zhn P e with|some z=>(Zaj z).length==sz|none=>false)&&decide (0<by_)&&decide (d<st.n)with
 |false=>rw[hb]at h;cases h
 |true=>
  rw[hb]at h
  simp only[cond_true,Yac,Yai]at h
  obtain⟨rfl,rfl⟩:=h
  simp only[Yao,Yaz]at hb
  obtain⟨⟨hz,hby⟩,hdn⟩:=hb
  replace hc:=Zri hc
  obtain⟨hu,i,hi,rfl,rfl⟩:=Zaz he
  split at hz
  case h_2=>cases hz
  rename_i z hz0
  have hz':i.zero=some z:=by unfold Zhn at hz0;rw[hi]at hz0;exact hz0
  have hzs:z.cells.size=i.size:=by simpa[Zaj]using hz
  obtain⟨A,cp,olds,hvs,hncp,hol,hoL,hor,hoa,hcase⟩:=ZkK hhead hsr (Zag hsr s)
  obtain⟨news,dx,hdx,hdx',hnl,hnL,hnr,hlen,hfirst⟩:=ZsE hxs hsr (Zag hsr x)
  have hmul:n+m<=(n+m)*i.bytes:=Nat.le_mul_of_pos_right _ hby
  have h63:n+m<=maxLen:=by simp only[maxLen];omega
  have hall:(old++xs).length=(n+m)*i.size:=by rw[Yal,hoL,hnL,Nat.add_mul]
  have hallu:(olds++news).length=(n+m)*i.size:=by rw[Yal,hol,hnl,Nat.add_mul]
  have hR: ∀(j:Nat) (v:V) (u:Value),(old++xs)[j]? = some v->(olds++news)[j]? = some u->Zel S w β true v u:=by
    intro j v u hv hu
    by_cases hj:j<old.length
    ·rw[Ya1 hj]at hv
     rw[Ya1 (by omega)]at hu
     exact hor j v u hv hu
    ·rw[Ya8 (by omega)]at hv
     rw[Ya8 (by omega)]at hu
     rw[hol,<- hoL]at hu
     exact hnr _ v u hv hu
  have hR': ∀(j:Nat) (v:V),(old++xs)[j]? = some v-> ∃u,(olds++news)[j]? = some u/\Zel S w β true v u:=by
    intro j v hv
    have hj:j<(olds++news).length:=by have:=(Yak.1 hv).1;omega
    exact⟨_,Yab hj,hR j v _ hv (Yab hj)⟩
  have h1c: ∀u∈news,u.oneCell'=true:=fun u hu=>by
    obtain⟨j,hj⟩:=List.mem_iff_getElem?.1 hu
    have hj':j<xs.length:=by have:=(Yak.1 hj).1;omega
    exact(hnr j _ u (Yab hj') hj).1
  have hrun: ∀w1:World,(n+m<=cp-> ∀ad,A=some ad->(storeCells (ad.add (n*i.size)) news).run P w= .ok () w1)->(n+m<=cp->A=none->w1=w)->
    (execOp a.eval o).run P w=(if n+m<=cp then .ok (.value (.slice A (n+m) cp)) w1
     else .ok (.value (.slice (some ⟨w.heap.size,0,none⟩) (n+m) (grownCap w (n+m) cp e)))
      (w.drew.alloc (.cells ((olds++news).toArray++Builtin.zeroCells z.cells (grownCap w (n+m) cp e-(n+m))) e))):=by
    intro w1 hst hst0
    have:=Zl6 (P:=P) (w:=w) t tx o.type e i z dx hu hi hz' hdx hdx' A n cp (a.eval x) m news olds hlen hfirst (fun dr=>Zcb hol hoa) w1 hst hst0 h63 hc
    unfold execOp
    simp only[ho,resolve,invoke,builtin,Sem.run_bind,Sem.run_pure,Result.andThen_ok,List.map_toArray,List.map_cons,List.map_nil,hvs,this]
    split<;>rfl
  have grow:n+m>cp->(execOp a.eval o).run P w= .ok (.value (.slice (some ⟨w.heap.size,0,none⟩) (n+m) (grownCap w (n+m) cp e)))
    (w.drew.alloc (.cells ((olds++news).toArray++Builtin.zeroCells z.cells (grownCap w (n+m) cp e-(n+m))) e))->
    Zsi C P o a w ((st.repl k { flat:=true,cs:=old++xs }).put d (.ref k 0 (n+m) i.size)):=by
    intro _ hr
    have hge:=grownCap_ge w (n+m) cp e
    generalize hG:grownCap w (n+m) cp e=G at hr hge
    have hsz:((olds++news).toArray++Builtin.zeroCells z.cells (G-(n+m))).size=(n+m)*i.size+(G-(n+m))*z.cells.size:=by
     rw[Array.size_append,size_zeroCells,List.size_toArray,hallu]
    have hs:=hsr.create k true (old++xs) ((olds++news).toArray++Builtin.zeroCells z.cells (G-(n+m))) e (0,0) (w.drawn+1) (ZnZ _) (by rw[hsz,hall];omega) (fun j v hv=>by
     obtain⟨u,hu',hr'⟩:=hR' j v hv
     refine⟨u,?_,hr'.1,hr'.2⟩
     rw[Array.getElem?_append_left (by simpa using(Yak.1 hu').1)]
     simpa using hu')
    refine⟨_,_,S,_,.inl ⟨_,hr,by rw[hd]⟩,hs.put hdn (.ref _ _ _ _ _ _ (.inr ⟨_,ZaU _ _ _,by simp,hge,?_,by simp[hall]⟩))⟩
    rw[hsz,hzs,<- Nat.add_mul]
    simp only[Nat.zero_add]
    exact Nat.mul_le_mul_right _ (by omega)
  by_cases hroom:n+m<=cp
  ·rcases hcase with⟨hn0,hc0⟩|⟨off,ob,bi,hob,hfl,hold,hbi,hA,htot,hfit⟩
   ·-- nothing at all
    have hm0:m=0:=by omega
    subst hn0 hc0 hm0
    have hnews:news=[]:=Yay (by simpa using hnl)
    have hcs:old++xs=[]:=Yay (by simpa using hall)
    have hr:=hrun w (fun _ ad _=>by rw[hnews];rfl) (fun _ _=>rfl)
    rw[if_pos hroom]at hr
    rw[hcs]
    exact⟨_,w,S,_,.inl ⟨_,hr,by rw[hd]⟩,(hsr.empty k).put hdn (.ref _ _ _ _ _ _ (.inl ⟨rfl,rfl⟩))⟩
   ·-- in place
    rcases hsr.objs k ob hob with⟨_,_,h3⟩|⟨bi',cur,e',fz,hbi',horx⟩
    ·rw[h3]at hbi;cases hbi
    rw[hbi']at hbi;cases hbi
    have hsize:=horx.size
    have hmn:(n+m)*i.size<=cp*i.size:=Nat.mul_le_mul_right _ hroom
    have hadd:(n+m)*i.size=n*i.size+m*i.size:=Nat.add_mul _ _ _
    have hst:=Zdz (P:=P) horx (bi.off+off+n*i.size) news (by omega) h1c
    have hr:=hrun _ (fun _ ad e=>by rw[hA]at e;cases e;rw[ZaP];exact hst) (fun _ e=>by rw[hA]at e;cases e)
    rw[if_pos hroom]at hr
    obtain⟨hos,htape,hout⟩:=Zej bi.blk news (bi.off+off+n*i.size) w
    have hSb: ¬S bi.blk:=(hsr.own k bi (by simp[hob]) hbi').1
    have hSk: ∀b,S b->(w.setCells bi.blk (bi.off+off+n*i.size) news).heap[b]? = w.heap[b]? :=fun b hb=>ZbP _ _ _ _ _ (fun e=>hSb (e▸hb))
    have hs:=hsr.repl k { flat:=true,cs:=old++xs } (some ⟨bi.blk,bi.off+off,bi.tot,(old++xs).length⟩) hos htape hout (Nat.le_of_eq (Zei _ _ _ _).symm)
      (fun b _ hbb=>ZbP _ _ _ _ _ (hbb bi (by simp[hob]) hbi')) (fun x hx=>by cases hx;exact .inr ⟨by simp[hob],bi,hbi',rfl⟩)
      (.inr ⟨_,_,e',fz,ZaU _ _ _,Zeh _ _ _ _ _ _ _ horx.heap,by rw[Ze8];exact hsize,by rw[Ze8];exact horx.free,by show bi.off+off+(old++xs).length<=bi.tot;rw[hall];omega,rfl,fun j v hv=>by
       show ∃u,(ZwA cur (bi.off+off+n*i.size) news)[bi.off+off+j]? = some u/\_
       have hv:(old++xs)[j]? = some v:=hv
       have hj:j<(n+m)*i.size:=by have:=(Yak.1 hv).1;omega
       obtain⟨u,hu',hr'⟩:=hR' j v hv
       refine⟨u,?_,hr'.1,?_⟩
       ·rw[ZkH _ _ _ _ (by omega)]
        by_cases hjn:j<n*i.size
        ·rw[if_neg (by omega)]
         rw[Ya1 (by omega)]at hu'
         obtain⟨b,oo,hA2,hc2⟩:=hoa (by intro e;rw[e]at hol;simp at hol;omega)
         rw[hA]at hA2;cases hA2
         have:=hc2 j u hu'
         rw[Zbc horx]at this
         exact this
        ·rw[if_pos (by omega)]
         rw[Ya8 (by omega),hol]at hu'
         have:bi.off+off+j-(bi.off+off+n*i.size)=j-n*i.size:=by omega
         rw[this];exact hu'
       ·rw[if_pos rfl]
        have:=hr'.2
        rw[if_pos rfl]at this
        exact⟨this.1,this.2.step (fun _ h=>h) hSk⟩⟩)
    refine⟨_,_,S,_,.inl ⟨_,hr,by rw[hd]⟩,hs.put hdn (.ref _ _ _ _ _ _ (.inr ⟨_,ZaU _ _ _,by rw[hA];rfl,hroom,?_,by simp[hall]⟩))⟩
    simp only[Nat.add_zero];exact htot
  ·have hr:=hrun w (fun h=>absurd h hroom) (fun h=>absurd h hroom)
   rw[if_neg hroom]at hr
   exact grow (by omega) hr
end
end Go.Abs
namespace Go.Abs
open Go Go.RowKit
section
variable {P:Program}{C:Ctx}{S:Nat->Prop}{β:Nat->Option BI}{st:St}{a:Act}{w w':World}
theorem Zmc {o:Oper}{t:TypeId}{len:Nat}{ps:Array (Nat×Operand)}{d:Nat}{c:Prop}{st':St}(ho:o.op= .buildSlice t len ps)(hd:o.dst=some d)
 (h:ZsB P st d t len ps.toList=some (c,st')) (hc:c) (hsr:SR C S β st a w):Zsi C P o a w st':=by
 unfold ZsB at h
 obtain⟨S1,hsr1⟩:=SR.frzP ps.toList hsr
 generalize (ps.toList.foldl (fun st p=>st.frzV (st.ev p.2)) st)=st1 at h hsr1
 simp only at h
 split at h<;>first|(cases h;done)|skip
 rename_i e sz by_ he
 split at h<;>first|(cases h;done)|skip
 rename_i z hz
 split at h<;>first|(cases h;done)|skip
 rename_i c' cs hf
 cases hb:(Zaj z).all ZbJ&&decide (0<(Zaj z).length)&&((ZaR st1 ps.toList).all fun p=>ZcY p.2)&&decide (d<st1.n)&&decide (len*sz<=16777216)with
 |false=>rw[hb]at h;cases h
 |true=>
  rw[hb]at h
  simp only[cond_true,Yac,Yai]at h
  obtain⟨rfl,rfl⟩:=h
  simp only[Yao,Yaz]at hb
  obtain⟨⟨⟨⟨hzf,hzl⟩,hpf⟩,hdn⟩,hlim⟩:=hb
  have hful:(bif ZgC (ZaR st1 ps.toList) 0 len then Zcz (ZaR st1 ps.toList)else cs)=cs:=by
    cases hix:ZgC (ZaR st1 ps.toList) 0 len with
    |false=>rfl
    |true=>
     rw[cond_true]
     have:=Zl7 _ _ _ _ 0 hix hf hc (by simp[Zek]) (Nat.zero_le _)
     rw[this];simp
  rw[hful]
  obtain⟨hu,i,hi,rfl,rfl⟩:=Zaz he
  have hz':i.zero=some z:=by unfold Zhn at hz;rw[hi]at hz;exact hz
  have hRz:=ZdK (S:=S1) (w:=w) (β:=β) hzf
  have hne:len*i.size≠0->0<z.cells.size:=fun _=>by rw[<- hRz.1];exact hzl
  have hbase:=Zma (n:=len*i.size) hRz hne
  have hparts: ∀(j:Nat) (p:Nat×V) (q:Nat×Value),(ZaR st1 ps.toList)[j]? = some p->(ps.toList.map fun p=>(p.1,a.eval p.2))[j]? = some q->p.1=q.1/\RRs (Zel S1 w β true) (ZaA p.2) q.2.cells:=by
    intro j p q hp hq
    have hfl:ZcY p.2=true:=by
     rw[Yat]at hpf
     exact hpf p (Ya0 hp)
    simp only[ZaR,Yas,Yaj]at hp hq
    obtain⟨x,hx,rfl⟩:=hp
    obtain⟨y,hy,rfl⟩:=hq
    rw[hx]at hy;cases hy
    exact⟨rfl,Zen true (Zag hsr1 _) hfl⟩
  obtain⟨cells',hfill,hR⟩:=Zsw (Zel S1 w β true) (.each i.size) (ZaR st1 ps.toList) _ cs c' _ (ps.toList.map fun p=>(p.1,a.eval p.2)) hf hc hbase (by simp[ZaR]) hparts
  obtain⟨β',hs⟩:=hsr1.newobj hdn true cs cells' e (0,0) w.drawn (ZnZ _) (Nat.le_of_eq hR.1) (ZdZ hR)
    (v:= .ref d 0 len i.size) (u:= .slice (some ⟨w.heap.size,0,none⟩) len len) (fun β' hb' S' w''=>by
     have hlen: ∀(ps:List (Nat×V)) (cs r:List V) (c:Prop),Zgh (.each i.size) cs ps=some (c,r)->c->r.length=cs.length:=by
      intro ps
      induction ps with
      |nil=>intro cs r c h _;simp only[Zgh,Yac,Yai]at h;rw[h.2]
      |cons q ps ih=>
       intro cs r c h hc
       obtain⟨ix,v⟩:=q
       simp only[Zgh]at h
       split at h<;>first|(cases h;done)|skip
       split at h<;>first|(cases h;done)|skip
       rename_i c2 r2 hrest
       simp only[Yac,Yai]at h
       obtain⟨rfl,rfl⟩:=h
       rw[ih _ _ _ hrest hc.2]
       simp[ZnN];omega
     have hl:=hlen _ _ _ _ hf hc
     rw[show(Zek (Zaj z) (len*i.size)).length=len*i.size from by simp[Zek]]at hl
     have hl':cells'.size=len*i.size:=by rw[<- hR.1,hl]
     exact .ref _ _ _ _ _ _ (.inr ⟨_,hb',by simp,Nat.le_refl _,by simp[hl'],by simp[hl]⟩))
  refine⟨_,_,S1,β',.inl ⟨_,?_,by rw[hd]⟩,hs⟩
  unfold execOp
  have hps:(ps.map fun(i,x)=>(i,a.eval x)).toList=ps.toList.map fun p=>(p.1,a.eval p.2):=by simp
  have hat:(Plc.each i.size).at=fun j=>some (j*i.size,i.size):=by funext j;rfl
  rw[hat]at hfill
  have hrun:(Instr.buildSlice t len (ps.map fun(i,x)=>(i,a.eval x))).run P w= .ok (.slice (some ⟨w.heap.size,0,none⟩) len len) { w with heap:=w.heap.push (.cells cells' e) }:=by
    have hlim': ¬(16777216<len*i.size):=by omega
    by_cases h0:len*i.size=0
    ·have hb0:((Array.range (len*i.size)).map (fun j=>z.cells[j%z.cells.size]!))= #[]:=by rw[h0];simp
     rw[hb0]at hfill
     simp only[Instr.buildSlice,Sem.run_bind,run_underlying hu,Result.andThen_ok,Zaw hi,gt_iff_lt]
     rw[if_neg (by simpa using hlim')]
     have hr0:Array.range 0= #[]:=by simp
     simp only[Sem.run_bind,Sem.run_pure,Result.andThen_ok,h0,if_true,hps,hr0,List.map_toArray,List.map_nil,hfill]
     simp[newRow]
    ·simp only[Instr.buildSlice,Sem.run_bind,run_underlying hu,Result.andThen_ok,Zaw hi,gt_iff_lt]
     rw[if_neg (by simpa using hlim')]
     simp only[Sem.run_bind,Sem.run_pure,Result.andThen_ok,if_neg h0,hps,zeroValue,typeInfo,run_program,hi,hz',hfill]
     simp[newRow]
  simp only[ho,Sem.run_bind,hrun,Result.andThen_ok,Sem.run_pure]
theorem Zmd {o:Oper}{src dst:TypeId}{x:Operand}{d:Nat}{c:Prop}{st':St}(ho:o.op= .convert src dst x)(hd:o.dst=some d)
 (h:ZsD P st d src dst (st.ev x)=some (c,st')) (hsr:SR C S β st a w):Zsi C P o a w st':=by
 unfold ZsD at h
 split at h<;>first|(cases h;done)|skip
 rename_i s e sz by_ hx he
 split at h<;>first|(cases h;done)|skip
 rename_i hi8
 cases hb:ZiH P src&&decide (d<st.n)with
 |false=>rw[hb]at h;cases h
 |true=>
  rw[hb]at h
  simp only[cond_true,Yac,Yai]at h
  obtain⟨_,rfl⟩:=h
  simp only[Yao,Yaz]at hb
  obtain⟨hu,i,hi,rfl,rfl⟩:=Zaz he
  have hv:=VR.str_inv (hx▸Zag hsr x)
  have hrun:=run_bytes_of_string (P:=P) w src dst e ⟨s.toArray⟩ (ZaL hb.1) hu (Zbl hi8)
  have e1:(⟨s.toArray⟩:ByteArray).size=s.length:=by simp[ByteArray.size]
  rw[e1]at hrun
  have hge:=grownCap_ge w s.length 0 e
  generalize grownCap w s.length 0 e=G at hrun hge
  have hrow:(bytesRow ⟨s.toArray⟩ G).size=G:=by simp[bytesRow];omega
  obtain⟨β',hs⟩:=hsr.newobj hb.2 true (s.map Zgg) (bytesRow ⟨s.toArray⟩ G) e (G,G+1) (w.drawn+1) ⟨Nat.le_succ _,by intro j hj hh;rw[hrow]at hj;simp at hh;omega⟩ (by rw[hrow];simpa using hge)
    (fun j v hv=>by
     simp only[Yas,Yaj]at hv
     obtain⟨b,hb',rfl⟩:=hv
     have hj:j<s.length:=(Yak.1 hb').1
     refine⟨.int .u8 (b.toNat:Int),?_,rfl,?_⟩
     ·have hb2:s[j]=b:=(Yak.1 hb').2
      simp[bytesRow,Array.getElem?_append,hj,hb2]
     ·rw[if_pos rfl];exact⟨rfl,.int _ _⟩)
    (v:= .ref d 0 s.length 1) (u:= .slice (some ⟨w.heap.size,0,none⟩) s.length G) (fun β' hb' S' w''=> .ref _ _ _ _ _ _ (.inr ⟨_,hb',by simp,hge,by simp[hrow],by simp⟩))
  refine⟨_,_,S,β',.inl ⟨_,?_,by rw[hd]⟩,hs⟩
  unfold execOp
  rw[hrow]at hrun
  simp only[ho,hv,Sem.run_bind,hrun,Result.andThen_ok,Sem.run_pure]
  rfl
end
def ZkM (mx:Bool):List V->Option (Prop×V)
 |[.int k x,.int _ y]=>some (True,.int k (bif mx then(if x<y then y else x)else(if y<x then y else x)))
 |_=>none
def vop (P:Program)(st:St):Op->Option (Prop×V)
 |.move x=>some (True,st.ev x)
 |.pick c a b=>match st.ev c with
  |.bool t=>some (True,bif t then st.ev a else st.ev b)
  |_=>none
 |.build t ps=>Zl4 P st t ps.toList
 |.load t x=>ZiL P st t (st.ev x)
 |.binOp op xt x y _=>ZEf P op xt (st.ev x) (st.ev y)
 |.unOp op _ x=>unV op (st.ev x)
 |.convert src dst x=>ZjV P st src dst (st.ev x)
 |.slice t x lo hi none=>ZgA P st t (st.ev x) (lo.map st.ev) (hi.map st.ev)
 |.fieldAddr t x f=>Zhp P t (st.ev x) f
 |.field t x f=>Zsr P t (st.ev x) f
 |.indexAddr t x i=>Zho P t (st.ev x) (st.ev i)
 |.index t x i=>Zss P t (st.ev x) (st.ev i)
 |.extract x i=>ZkG (st.ev x) i
 |.nilCheck x=>match st.ev x with
  |.ptr k off=>some (True,.ptr k off)
  |.vptr cs=>some (True,.vptr cs)
  |_=>none
 |.makeFunc (.func f) first captured=>bif first.isEmpty then some (True,.fn f (captured.toList.map st.ev))else none
 |.call { callee:= .builtin .len,args,argTypes }=>match args.toList,argTypes.toList with
  |[x],[t]=>ZEy P t (st.ev x)
  |_,_=>none
 |.call { callee:= .builtin .min,args,.. }=>ZkM false (args.toList.map st.ev)
 |.call { callee:= .builtin .max,args,.. }=>ZkM true (args.toList.map st.ev)
 |_=>none
def aop (P:Program)(sl:TypeId->List (Nat×Nat))(o:Oper)(st:St):Option (Prop×St):=
 match o.dst with
 |none=>match o.op with
  |.store t x v=>Zsz P st t (st.ev x) (st.ev v) (sl t)
  |_=>none
 |some d=>match o.op with
  |.assign x=>ZnX P st d o.type (st.ev x)
  |.alloc t=>Zsy P st d t (sl t)
  |.box t x=>ZEz st d (st.ev x) (sl t)
  |.makeSlice t l c=>ZAw P st d t (st.ev l) (st.ev c)
  |.buildSlice t len ps=>ZsB P st d t len ps.toList
  |.call { callee:= .builtin .append,args,argTypes }=>match args.toList,argTypes.toList with
   |[s,x],[t,tx]=>ZnY P st d t tx (st.ev s) (st.ev x)
   |_,_=>none
  |.convert src dst x=>match ZsD P st d src dst (st.ev x)with
   |some r=>some r
   |none=>match ZjV P st src dst (st.ev x),decide (d<st.n)with
    |some (c,v),true=>some (c,st.put d v)
    |_,_=>none
  |op=>match vop P st op,decide (d<st.n)with
   |some (c,v),true=>some (c,st.put d v)
   |_,_=>none
section
variable {P:Program}{C:Ctx}{S:Nat->Prop}{β:Nat->Option BI}{st:St}{a:Act}{w w':World}
theorem ZgE {mx:Bool}{l:List V}{us:List Value}{c:Prop}{v:V}{ts:Array TypeId}{ty:TypeId}(h:ZkM mx l=some (c,v))(hl:l.length=us.length)(hr: ∀(j:Nat) (v:V) (u:Value),l[j]? = some v->us[j]? = some u->VR S w β v u) :
 ∃u,(if mx then Builtin.max_ ts ty us.toArray else Builtin.min_ ts ty us.toArray).run P w= .ok u w/\VR S w β v u:=by
 unfold ZkM at h
 split at h<;>first|(cases h;done)|skip
 rename_i k x k' y
 simp only[Yac,Yai]at h
 obtain⟨_,rfl⟩:=h
 match us,hl with
 |[u0,u1],_=>
  have h0:=VR.int_inv (hr 0 _ _ rfl rfl)
  have h1:=VR.int_inv (hr 1 _ _ rfl rfl)
  subst h0 h1
  cases mx with
  |true=>exact⟨_,by simp[Builtin.max_,Builtin.max2],.int⟩
  |false=>exact⟨_,by simp[Builtin.min_,Builtin.min2],.int⟩
end
end Go.Abs
namespace Go.Abs
open Go Go.RowKit
section
variable {P:Program}{C:Ctx}{S:Nat->Prop}{β:Nat->Option BI}{st:St}{a:Act}{w w':World}
theorem Zj5 (h:SR C S β st a w)(x:Option Operand):(∀v,x.map st.ev=some v-> ∃u,x.map a.eval=some u/\VR S w β v u)/\(x.map st.ev=none->x.map a.eval=none):=by
 cases x with
 |none=>exact⟨fun v hv=>(by cases hv),fun _=>rfl⟩
 |some x=>exact⟨fun v hv=>by cases hv;exact⟨_,rfl,Zag h x⟩,fun hv=>by cases hv⟩
theorem ZiQ (h:SR C S β st a w)(l:List Operand): ∀(j:Nat) (v:V) (u:Value),(l.map st.ev)[j]? = some v->(l.map a.eval)[j]? = some u->VR S w β v u:=by
 intro j v u hv hu
 rw[Yas,Yaj]at hv hu
 obtain⟨x,hx,rfl⟩:=hv
 obtain⟨y,hy,rfl⟩:=hu
 rw[hx]at hy;cases hy
 exact Zag h x
theorem ZgF {o:Oper}{c:Prop}{v:V}(h:vop P st o.op=some (c,v))(hc:c)(hsr:SR C S β st a w): ∃u,(execOp a.eval o).run P w= .ok (.value u) w/\VR S w β v u:=by
 unfold vop at h
 unfold execOp
 split at h<;>first|(cases h;done)|skip
 ·rename_i x ho
  simp only[Yac,Yai]at h;obtain⟨_,rfl⟩:=h
  exact⟨_,by simp[ho],Zag hsr x⟩
 ·rename_i cc x y ho
  split at h<;>first|(cases h;done)|skip
  rename_i t ht
  simp only[Yac,Yai]at h;obtain⟨_,rfl⟩:=h
  have hb:=VR.bool_inv (ht▸Zag hsr cc)
  cases t with
  |true=>exact⟨_,by simp[ho,hb,asBool],Zag hsr x⟩
  |false=>exact⟨_,by simp[ho,hb,asBool],Zag hsr y⟩
 ·rename_i t ps ho
  obtain⟨u,hr,hv⟩:=Zl5 (P:=P) (ps:=ps) h hc hsr
  exact⟨u,by simp only[ho,Sem.run_bind,hr,Result.andThen_ok,Sem.run_pure],hv⟩
 ·rename_i t x ho
  obtain⟨u,hr,hv⟩:=ZiO (P:=P) h hc (Zag hsr x) hsr
  exact⟨u,by simp only[ho,Sem.run_bind,hr,Result.andThen_ok,Sem.run_pure],hv⟩
 ·rename_i op xt x y yt ho
  obtain⟨u,hr,hv⟩:=Zrf (P:=P) h hc (Zag hsr x) (Zag hsr y)
  refine⟨u,?_,hv⟩
  have hg:(eqGuard op xt x y (a.eval x) (a.eval y)).run P w= .ok () w:=by
   have hx:=Zag hsr x
   have hy:=Zag hsr y
   unfold ZEf at h
   split at h<;>first|(cases h;done)|skip
   ·rename_i h1 h2;rw[h1]at hx;rw[h2]at hy;rw[VR.int_inv hx,VR.int_inv hy];cases op<;>rfl
   ·rename_i h1 h2;rw[h1]at hx;rw[h2]at hy;rw[VR.str_inv hx,VR.str_inv hy];cases op<;>rfl
   ·rename_i h1 h2;rw[h1]at hx;rw[h2]at hy;rw[VR.bool_inv hx,VR.bool_inv hy];cases op<;>rfl
   all_goals
    rename_i h1 h2
    rw[h1]at hx;rw[h2]at hy
    obtain⟨us,hu1,_,_⟩:=Zgy (v:=_) rfl hx
    obtain⟨us',hu2,_,_⟩:=Zgy (v:=_) rfl hy
    rw[hu1,hu2]
    exact ZiK x y us us' (ZnV h hc)
  simp only[ho,Sem.run_bind,hg,hr,Result.andThen_ok,Sem.run_pure]
 ·rename_i op xt x ho
  obtain⟨u,hr,hv⟩:=Zst (P:=P) h (Zag hsr x)
  exact⟨u,by simp only[ho,Sem.run_bind,hr,Result.andThen_ok,Sem.run_pure],hv⟩
 ·rename_i src dst x ho
  obtain⟨u,hr,hv⟩:=ZnW (P:=P) h hc (Zag hsr x) hsr
  exact⟨u,by simp only[ho,Sem.run_bind,hr,Result.andThen_ok,Sem.run_pure],hv⟩
 ·rename_i t x lo hi ho
  obtain⟨h1,h2⟩:=Zj5 hsr lo
  obtain⟨h3,h4⟩:=Zj5 hsr hi
  obtain⟨u,hr,hv⟩:=Zl3 (P:=P) h hc (Zag hsr x) h1 h2 h3 h4 hsr
  exact⟨u,by simp only[ho,Sem.run_bind,Option.map_none,hr,Result.andThen_ok,Sem.run_pure],hv⟩
 ·rename_i t x f ho
  obtain⟨u,hr,hv⟩:=Zib (P:=P) h (Zag hsr x)
  exact⟨u,by simp only[ho,Sem.run_bind,hr,Result.andThen_ok,Sem.run_pure],hv⟩
 ·rename_i t x f ho
  obtain⟨u,hr,hv⟩:=Zl1 (P:=P) h hc (Zag hsr x)
  exact⟨u,by simp only[ho,Sem.run_bind,hr,Result.andThen_ok,Sem.run_pure],hv⟩
 ·rename_i t x i ho
  obtain⟨u,hr,hv⟩:=Zic (P:=P) h hc (Zag hsr x) (Zag hsr i)
  exact⟨u,by simp only[ho,Sem.run_bind,hr,Result.andThen_ok,Sem.run_pure],hv⟩
 ·rename_i t x i ho
  obtain⟨u,hr,hv⟩:=Zl2 (P:=P) h hc (Zag hsr x) (Zag hsr i)
  exact⟨u,by simp only[ho,Sem.run_bind,hr,Result.andThen_ok,Sem.run_pure],hv⟩
 ·rename_i x i ho
  obtain⟨u,hr,hv⟩:=ZjW (P:=P) h hc (Zag hsr x)
  exact⟨u,by simp only[ho,Sem.run_bind,hr,Result.andThen_ok,Sem.run_pure],hv⟩
 ·rename_i x ho
  have hx:=Zag hsr x
  split at h<;>first|(cases h;done)|skip
  ·rename_i k off hk
   simp only[Yac,Yai]at h;obtain⟨_,rfl⟩:=h
   rw[hk]at hx
   obtain⟨bi,hbi,hu⟩:=VR.ptr_inv hx
   exact⟨_,by simp[ho,hu],.ptr k off bi hbi⟩
  ·rename_i cs hk
   simp only[Yac,Yai]at h;obtain⟨_,rfl⟩:=h
   rw[hk]at hx
   obtain⟨b,oo,us,hu,_⟩:=ZgB hx
   rw[hu]at hx
   exact⟨_,by simp[ho,hu],hx⟩
 ·rename_i f first captured ho
  cases hf:first.isEmpty with
  |false=>rw[hf]at h;cases h
  |true=>
   rw[hf]at h
   simp only[cond_true,Yac,Yai]at h;obtain⟨_,rfl⟩:=h
   obtain rfl:first= #[]:=by simpa using hf
   refine⟨.func (.func f) #[] (captured.map a.eval),by simp[ho,Instr.makeFunc],.fn f _ _ (by simp) ?_⟩
   intro j v u hv hu
   simp only[Yas,Yaj]at hv
   obtain⟨x,hx,rfl⟩:=hv
   simp only[Array.getElem?_map,Yaj]at hu
   obtain⟨y,hy,rfl⟩:=hu
   rw[Array.getElem?_toList]at hx
   rw[hx]at hy;cases hy
   exact Zag hsr x
 ·rename_i args argTypes ho
  split at h<;>first|(cases h;done)|skip
  rename_i x t hx ht
  have hx':args= #[x]:=by cases args;simp_all
  have ht':argTypes= #[t]:=by cases argTypes;simp_all
  subst hx' ht'
  obtain⟨u,hr,hv⟩:=Zrg (P:=P) (ty:=o.type) h (Zag hsr x)
  exact⟨u,by simp only[ho,resolve,invoke,builtin,Sem.run_bind,Sem.run_pure,Result.andThen_ok,List.map_toArray,List.map_cons,List.map_nil,hr],hv⟩
 ·rename_i args argTypes ho
  obtain⟨u,hr,hv⟩:=ZgE (P:=P) (S:=S) (w:=w) (β:=β) (ts:=argTypes) (ty:=o.type) (l:=args.toList.map st.ev) (us:=args.toList.map a.eval) h (by rw[List.length_map,List.length_map]) (ZiQ hsr _)
  have e:(args.toList.map a.eval).toArray=args.map a.eval:=by rw[<- Array.toList_map]
  rw[e]at hr
  simp only[Bool.false_eq_true,if_false]at hr
  exact⟨u,by simp only[ho,resolve,invoke,builtin,Sem.run_bind,Sem.run_pure,Result.andThen_ok,hr],hv⟩
 ·rename_i args argTypes ho
  obtain⟨u,hr,hv⟩:=ZgE (P:=P) (S:=S) (w:=w) (β:=β) (ts:=argTypes) (ty:=o.type) (l:=args.toList.map st.ev) (us:=args.toList.map a.eval) h (by rw[List.length_map,List.length_map]) (ZiQ hsr _)
  have e:(args.toList.map a.eval).toArray=args.map a.eval:=by rw[<- Array.toList_map]
  rw[e]at hr
  simp only[if_true]at hr
  exact⟨u,by simp only[ho,resolve,invoke,builtin,Sem.run_bind,Sem.run_pure,Result.andThen_ok,hr],hv⟩
theorem Zme {o:Oper}{d:Nat}{r:Option (Prop×V)}{c:Prop}{st':St}(hd:o.dst=some d)(h:(match r,decide (d<st.n)with|some (c,v),true=>some (c,st.put d v)|_,_=>none)=some (c,st'))
 (hr: ∀c v,r=some (c,v)->c-> ∃u,(execOp a.eval o).run P w= .ok (.value u) w/\VR S w β v u) (hc:c) (hsr:SR C S β st a w):Zsi C P o a w st':=by
 split at h<;>first|(cases h;done)|skip
 rename_i c' v hdn
 simp only[Yac,Yai]at h;obtain⟨rfl,rfl⟩:=h
 obtain⟨u,hrun,hv⟩:=hr _ _ rfl hc
 exact⟨_,w,S,β,.inl ⟨u,hrun,by rw[hd]⟩,hsr.put (of_decide_eq_true hdn) hv⟩
theorem ZsF {sl:TypeId->List (Nat×Nat)}{o:Oper}{c:Prop}{st':St}(h:aop P sl o st=some (c,st'))(hc:c)(hsr:SR C S β st a w):Zsi C P o a w st':=by
 unfold aop at h
 split at h
 ·rename_i hd
  split at h<;>first|(cases h;done)|skip
  rename_i t x v ho
  exact Zl9 ho hd h hc hsr
 ·rename_i d hd
  split at h
  ·rename_i x ho;exact ZkJ ho hd h hsr
  ·rename_i t ho;exact Zl8 ho hd h hsr
  ·rename_i t x ho;exact Zrj ho hd h hsr
  ·rename_i t l cc ho;exact Zn0 ho hd h hc hsr
  ·rename_i t len ps ho;exact Zmc ho hd h hc hsr
  ·rename_i args argTypes ho
   split at h<;>first|(cases h;done)|skip
   rename_i s x t tx hs ht
   have hs':args= #[s,x]:=by cases args;simp_all
   have ht':argTypes= #[t,tx]:=by cases argTypes;simp_all
   subst hs' ht'
   exact ZkL ho hd h hc hsr
  ·rename_i src dst x ho
   split at h
   ·rename_i r hr
    simp only[Yac]at h
    subst h
    exact Zmd ho hd hr hsr
   ·refine Zme hd h (fun c v hcv hc=> ?_) hc hsr
    exact ZgF (by rw[ho];exact hcv) hc hsr
  ·exact Zme hd h (fun c v hcv hc=>ZgF hcv hc hsr) hc hsr
end
end Go.Abs
namespace Go.Abs
open Go Go.RowKit
def SRx (C:Ctx)(st:St)(a:Act)(w:World):Prop:= ∃S β,SR C S β st a w
def AQ (C:Ctx)(Q:Exit->St->Prop):Exit->Act->World->Prop:=fun e a w=> ∃st,Q e st/\SRx C st a w
def AW (P:Program)(c:Code)(Q:Exit->St->Prop)(st:St):Prop:= ∀C a w,SRx C st a w->c.wp P (AQ C Q) a w
def AWL (P:Program)(ops:Array Oper)(l:List Oper)(Q:Exit->St->Prop)(st:St):Prop:= ∀C a w,SRx C st a w->wpList P ops (AQ C Q) l a w
def Zae (d:Nat):Nat->V->V
 |0,_=> .any
 |n+1,v=>match v with
  |.ref k o m s=> .ref ((k+1)*1000+d) o m s
  |.ptr k o=> .ptr ((k+1)*1000+d) o
  |.agg cs=> .agg (cs.map (Zae d n))
  |.tup vs=> .tup (vs.map (Zae d n))
  |.fn f cap=> .fn f (cap.map (Zae d n))
  |v=>v
def St.adoptL (st:St)(d:Nat):List (Nat×List V)->St
 |[]=>st
 |(k,cs)::l=>(st.repl ((k+1)*1000+d) { flat:=true,cs:=cs }).adoptL d l
structure Out (S:Nat->Prop)(w w':World)(r:V)(mem:List (Nat×List V))(u:Value):Prop where
 ex: ∃(S':Nat->Prop) (β':Nat->Option BI),(∀b,S b->S' b)/\(∀b,S' b->S b\/(w.heap.size<=b/\b<w'.heap.size))/\VR S' w' β' r u/\
  (∀k cs,(k,cs)∈mem->OR S' w' β' k { flat:=true,cs:=cs })/\
  (∀k cs bi,(k,cs)∈mem->β' k=some bi->w.heap.size<=bi.blk/\ ¬S' bi.blk)/\
  (∀k k' cs cs' bi bi',(k,cs)∈mem->(k',cs')∈mem->β' k=some bi->β' k'=some bi'->bi.blk=bi'.blk->k=k')/\
  (∀k,(∀cs,(k,cs)∉mem)->β' k=none)/\(mem.map (·.1)).Nodup
 frame:ZhV (fun _=>False) w w'
def AC (P:Program)(f:FuncId)(args:List V)(R:V->List (Nat×List V)->Prop):Prop:=
 ∀(S:Nat->Prop) (w:World) (us:List Value),Sok S w->args.length=us.length->(∀(j:Nat) (v:V) (u:Value),args[j]? = some v->us[j]? = some u->VR S w (fun _=>none) v u)->
  Calls P f us.toArray w (fun e w'=> ∃r mem u,R r mem/\e= .returned u/\Out S w w' r mem u)
section
variable {P:Program}{C:Ctx}{S:Nat->Prop}{β:Nat->Option BI}{st st':St}{a:Act}{w w':World}{Q:Exit->St->Prop}{ops:Array Oper}{rest:List Oper}{o:Oper}
theorem AW.skip (h:Q .normal st):AW P .skip Q st:=fun _ _ _ hs=>wp_skip ⟨st,h,hs⟩
theorem AW.ret (h:Q .ret st):AW P .ret Q st:=fun _ _ _ hs=>wp_ret ⟨st,h,hs⟩
theorem AW.exit {id:Nat}(h:Q (.exit id) st):AW P (.exit id) Q st:=fun _ _ _ hs=>wp_exit ⟨st,h,hs⟩
def Zbd (K:St->Prop)(Q:Exit->St->Prop):Exit->St->Prop
 |.normal,st=>K st
 |e,st=>Q e st
def blockQ (id:Nat)(Q:Exit->St->Prop):Exit->St->Prop
 |.exit id',st=>if id'=id then Q .normal st else Q (.exit id') st
 |e,st=>Q e st
theorem AW.seq {x y:Code}(h:AW P x (Zbd (AW P y Q) Q) st):AW P (.seq x y) Q st:=fun C a w hs=>
 wp_seq (wp_mono (h C a w hs) fun e a' w' ⟨st',hq,hs'⟩=>by
  cases e with
  |normal=>exact hq C a' w' hs'
  |_=>exact⟨st',hq,hs'⟩)
theorem AW.block {id:Nat}{c:Code}(h:AW P c (blockQ id Q) st):AW P (.block id c) Q st:=fun C a w hs=>
 wp_block (wp_mono (h C a w hs) fun e a' w' ⟨st',hq,hs'⟩=>by
  cases e with
  |exit id'=>
   simp only[blockQ]at hq
   simp only[Exit.inBlock]
   split
   ·rename_i he;rw[if_pos he]at hq;exact⟨st',hq,hs'⟩
   ·rename_i he;rw[if_neg he]at hq;exact⟨st',hq,hs'⟩
  |_=>exact⟨st',hq,hs'⟩)
theorem AW.cond {c:Operand}{x y:Code}{t:Bool}(hc:st.ev c= .bool t)(ht:t=true->AW P x Q st)(hf:t=false->AW P y Q st):AW P (.cond c x y) Q st:=fun C a w hs=>by
 obtain⟨S,β,h⟩:=hs
 exact wp_cond_split (VR.bool_inv (hc▸Zag h c)) (fun e=>ht e C a w ⟨S,β,h⟩) (fun e=>hf e C a w ⟨S,β,h⟩)
theorem AW.region {id:Nat}{l:List Oper}(h:AWL P l.toArray l Q st):AW P (.region id l.toArray false) Q st:=fun C a w hs=>wp_region_lit (h C a w hs)
theorem AW.keep {c:Code}(is ks:List Nat)(h:AW P c Q (st.keep is ks)):AW P c Q st:=fun C a w ⟨S,β,hs⟩=>h C a w ⟨S,β,hs.keep is ks⟩
theorem AW.mono {c:Code}{Q':Exit->St->Prop}(h:AW P c Q' st)(hq: ∀e st,Q' e st->Q e st):AW P c Q st:=fun C a w hs=>
 wp_mono (h C a w hs) fun _ _ _ ⟨st',q,hs'⟩=>⟨st',hq _ _ q,hs'⟩
theorem ZsG (p:Nat->Prop)(h: ∃n,p n): ∃n,p n/\ ∀m,p m->n<=m:=by
 obtain⟨n,hn⟩:=h
 induction n using Nat.strongRecOn with
 |_ n ih=>
  by_cases hm: ∃m,m<n/\p m
  ·obtain⟨m,hlt,hp⟩:=hm
   exact ih m hlt hp
  ·exact⟨n,hn,fun m hp=>Nat.le_of_not_lt fun hlt=>hm ⟨m,hlt,hp⟩⟩
open Classical in
theorem AW.loop {c:Code}(is ks:List Nat)(Inv:Nat->St->Prop)(h0: ∃n,Inv n (st.keep is ks))(hround: ∀n st,Inv n st->AW P c (Zbd (fun st'=> ∃n',n'<n/\Inv n' (st'.keep is ks)) Q) st):AW P (.loop c) Q st:=by
 intro C a w hs
 let I:Act->World->Prop:=fun a w=> ∃n st,Inv n st/\SRx C st a w
 let μ:Act->World->Nat:=fun a w=>if h: ∃n,∃st,Inv n st/\SRx C st a w then(ZsG _ h).choose else 0
 have hμ: ∀a w (_: ∃n,∃st,Inv n st/\SRx C st a w),(∃st,Inv (μ a w) st/\SRx C st a w)/\ ∀m,(∃st,Inv m st/\SRx C st a w)->μ a w<=m:=fun a w h=>by
  have:μ a w=(ZsG _ h).choose:=dif_pos h
  rw[this]
  exact(ZsG _ h).choose_spec
 refine wp_loop I μ ?_ ?_
 ·obtain⟨n,hn⟩:=h0
  obtain⟨S,β,h⟩:=hs
  exact⟨n,_,hn,S,β,h.keep is ks⟩
 ·intro a w hI
  have hf:=(hμ a w hI).1
  obtain⟨st1,hinv,hs1⟩:=hf
  refine wp_mono (hround _ _ hinv C a w hs1) fun e a' w' ⟨st',hq,hs'⟩=> ?_
  cases e with
  |normal=>
   obtain⟨n',hlt,hn'⟩:=hq
   obtain⟨S,β,h⟩:=hs'
   have hI':I a' w':=⟨n',_,hn',S,β,h.keep is ks⟩
   exact⟨hI',Nat.lt_of_le_of_lt ((hμ a' w' hI').2 _ ⟨_,hn',S,β,h.keep is ks⟩) hlt⟩
  |_=>exact⟨st',hq,hs'⟩
theorem AWL.nil (h:Q .normal st):AWL P ops [] Q st:=fun _ _ _ hs=>wpList_nil ⟨st,h,hs⟩
theorem AWL.op {sl:TypeId->List (Nat×Nat)}{c:Prop}(hg:o.guard=none)(h:aop P sl o st=some (c,st'))(hc:c)(k:AWL P ops rest Q st'):AWL P ops (o::rest) Q st:=fun C a w ⟨S,β,hs⟩=>by
 refine wpList_plain hg fun K hK=> ?_
 obtain⟨a',w',S',β',hr,hs'⟩:=ZsF h hc hs
 have:=hK _ _ (k C a' w' ⟨S',β',hs'⟩)
 unfold Oper.wp
 rcases hr with⟨v,hr,rfl⟩|⟨hr,rfl⟩<;>rw[hr]<;>exact this
theorem Zh0 {j d:Nat}{t:Bool}(hj:(ops[j]?).bind (·.dst)=some d)(hd:d<st.n)(ht:st.get d= .bool t)(hs:SR C S β st a w):yielded ops a.tmps j=some t:=by
 have h1:=VR.bool_inv (ht▸hs.slots d)
 have hlt:d<a.tmps.size:=by rw[hs.tsize];exact hd
 have:a.tmps[d]? = some (.bool t):=by
  rw[Yan]at h1
  rw[Array.getElem?_eq_getElem hlt]at h1 ⊢
  simpa using h1
 simp[yielded,hj,this]
def GV (v:V)(y:Option Bool):Prop:=(∃t,v= .bool t/\y=some t)\/(v= .con undef/\y=none)
theorem Zhq {j d:Nat}{y:Option Bool}(hj:(ops[j]?).bind (·.dst)=some d)(hd:d<st.n)(ht:GV (st.get d) y)(hs:SR C S β st a w):yielded ops a.tmps j=y:=by
 rcases ht with⟨t,ht,rfl⟩|⟨ht,rfl⟩
 ·exact Zh0 hj hd ht hs
 ·have h1:=VR.con_inv (ht▸hs.slots d)
  have hlt:d<a.tmps.size:=by rw[hs.tsize];exact hd
  have:a.tmps[d]? = some undef:=by
   rw[Yan]at h1
   rw[Array.getElem?_eq_getElem hlt]at h1 ⊢
   simpa using h1
  simp[yielded,hj,this,undef]
theorem AWL.guard {j d:Nat}{want t:Bool}(hg:o.guard=some (j,want))(hj:(ops[j]?).bind (·.dst)=some d)(hd:d<st.n)(ht:st.get d= .bool t)
 (hyes:t=want->AWL P ops ({ o with guard:=none }::rest) Q st) (hno:t≠want->AWL P ops rest Q (match o.dst with|some e=>st.put e (.con undef)|none=>st)) (hdn: ∀e,o.dst=some e->e<st.n):AWL P ops (o::rest) Q st:=fun C a w ⟨S,β,hs⟩=>by
 have hy:=Zh0 hj hd ht hs
 unfold wpList
 by_cases htw:t=want
 ·rw[if_pos (by simp[Region.wanted,hg,hy,htw])]
  have:=hyes htw C a w ⟨S,β,hs⟩
  unfold wpList at this
  rw[if_pos (by simp[Region.wanted])]at this
  exact this
 ·rw[if_neg (by simp[Region.wanted,hg,hy,htw])]
  refine hno htw C _ w ?_
  cases hod:o.dst with
  |none=>exact⟨S,β,hs.putNone undef⟩
  |some e=>exact⟨S,β,hs.put (hdn e hod) (.flat (.con _))⟩
theorem AWL.guardU {j d e:Nat}{want:Bool}(hg:o.guard=some (j,want))(hj:(ops[j]?).bind (·.dst)=some d)(hd:Nat.ble (d+1) st.n=true)(ht:st.get d= .con undef)(he:o.dst=some e)(hen:Nat.ble (e+1) st.n=true)
 (hno:AWL P ops rest Q (st.put e (.con undef))):AWL P ops (o::rest) Q st:=fun C a w ⟨S,β,hs⟩=>by
 have hy:=Zhq hj (Yaa hd) (.inr ⟨ht,rfl⟩) hs
 unfold wpList
 rw[if_neg (by simp[Region.wanted,hg,hy])]
 refine hno C _ w ?_
 rw[he]
 exact⟨S,β,hs.put (Yaa hen) (.flat (.con _))⟩
theorem SR.adopt (h:SR C S β st a w)(k:Nat)(cs:List V)(bi':Option BI)(β':Nat->Option BI)(hb:β' k=bi')(hor:OR S w β' k { flat:=true,cs:=cs })
 (hfree: ∀x,bi'=some x->C.w0.heap.size<=x.blk/\ ¬S x.blk/\ ∀j bj,j≠k->(st.obj j).isSome=true->β j=some bj->bj.blk≠x.blk):SR C S (upd β k bi') (st.repl k { flat:=true,cs:=cs }) a w:=by
 have hoth: ∀j,j≠k->upd β k bi' j=β j:=fun j hj=>ZbO β k j bi' hj
 exact{
  tsize:=h.tsize
  slots:=fun i=>by
   rw[St.get_repl]
   have hi:=h.slots i
   unfold St.get at hi
   cases hl:lk st.slots i with
   |none=>exact .any _
   |some v=>rw[hl]at hi;exact VR.wipe hoth 4 hi
  defers:=h.defers
  objs:=fun j o ho=>by
   rw[St.obj_repl]at ho
   by_cases hj:j=k
   ·subst hj
    simp only[if_true,Yac]at ho
    subst ho
    rcases hor with⟨h1,h2,h3⟩|⟨bi,cur,e,fz,hbi,hr⟩
    ·exact .inl ⟨h1,h2,by rw[ZaU,<- hb,h3]⟩
    ·refine .inr ⟨bi,cur,e,fz,by rw[ZaU,<- hb,hbi],hr.heap,hr.size,hr.free,hr.fits,hr.len,?_⟩
     intro i v hv
     obtain⟨u,hu,h1,hr'⟩:=hr.cells i v hv
     exact⟨u,hu,h1,by rw[if_pos rfl]at hr' ⊢;exact hr'⟩
   ·rw[if_neg hj,Yaj]at ho
    obtain⟨o0,ho0,rfl⟩:=ho
    exact OR.step (h.objs j o0 ho0) (fun _ h=>h) (fun _ _=>rfl) (fun _ _=>rfl) (hoth j hj) _ (fun v u hv=>VR.wipe hoth 3 hv)
  inj:=fun j j' bj bj' hj hj' hbj hbj' hblk=>by
   rw[St.obj_repl]at hj hj'
   by_cases e1:j=k
   ·by_cases e2:j'=k
    ·exact e1.trans e2.symm
    ·exfalso
     subst e1
     rw[ZaU]at hbj
     rw[hoth j' e2]at hbj'
     rw[if_neg e2]at hj'
     exact(hfree bj hbj).2.2 j' bj' e2 (by simpa using hj') hbj' hblk.symm
   ·by_cases e2:j'=k
    ·exfalso
     subst e2
     rw[ZaU]at hbj'
     rw[hoth j e1]at hbj
     rw[if_neg e1]at hj
     exact(hfree bj' hbj').2.2 j bj e1 (by simpa using hj) hbj hblk
    ·rw[hoth j e1]at hbj
     rw[hoth j' e2]at hbj'
     rw[if_neg e1]at hj
     rw[if_neg e2]at hj'
     exact h.inj j j' bj bj' (by simpa using hj) (by simpa using hj') hbj hbj' hblk
  own:=fun j bj hj hbj=>by
   rw[St.obj_repl]at hj
   by_cases e1:j=k
   ·subst e1
    rw[ZaU]at hbj
    exact⟨(hfree bj hbj).2.1,.inl (hfree bj hbj).1⟩
   ·rw[hoth j e1]at hbj
    rw[if_neg e1]at hj
    have:=h.own j bj (by simpa using hj) hbj
    refine⟨this.1,this.2.imp id (fun hL=>⟨hL.1,?_⟩)⟩
    show ZcX (ZcO k st.lent) j=true
    rw[ZbB];exact hL.2
  pins:=fun j bj hj=>by
   obtain⟨hne,hm⟩:=Zdh hj
   rw[hoth j hne];exact h.pins j bj hm
  sub:=h.sub
  snew:=h.snew
  slt:=h.slt
  frame:=h.frame }
theorem ZwM {d:Nat}{β' β'':Nat->Option BI}(hβ: ∀k,β' k=none\/β'' ((k+1)*1000+d)=β' k): ∀(n:Nat) {v:V} {u:Value},VR S w β' v u->VR S w β'' (Zae d n v) u:=by
 intro n
 induction n with
 |zero=>intro v u _;exact .any u
 |succ n ih=>
  intro v u h
  have hlist: ∀{cs:List V} {us:Array Value},(∀(j:Nat) (v:V) (u:Value),cs[j]? = some v->us[j]? = some u->VR S w β' v u)-> ∀(j:Nat) (v:V) (u:Value),(cs.map (Zae d n))[j]? = some v->us[j]? = some u->VR S w β'' v u:=by
    intro cs us hr j v u hv hu
    simp only[Yas,Yaj]at hv
    obtain⟨v0,hv0,rfl⟩:=hv
    exact ih (hr j v0 u hv0 hu)
  cases h with
  |flat h=>cases h with
   |fn f=>exact .flat (.fn f)
   |_=>refine .flat ?_;first|exact .int _ _|exact .bool _|exact .str _|exact .con _|exact .nils _|(apply FR.view<;>assumption)|(apply FR.vptr<;>assumption)|(apply FR.fagg<;>assumption)|(apply FR.clo<;>assumption)|(apply FR.mclo<;>assumption)
  |any u=>exact .any u
  |ref k off n' sz A c h=>
   refine .ref _ off n' sz A c ?_
   rcases h with h|⟨bi,hbi,hrest⟩
   ·exact .inl h
   ·rcases hβ k with h0|h0
    ·rw[h0]at hbi;cases hbi
    ·exact .inr ⟨bi,by rw[h0];exact hbi,hrest⟩
  |ptr k off bi hbi=>
   rcases hβ k with h0|h0
   ·rw[h0]at hbi;cases hbi
   ·exact .ptr _ off bi (by rw[h0];exact hbi)
  |agg cs us hl hr=>exact .agg _ us (by simpa using hl) (hlist hr)
  |tup vs us hl hr=>exact .tup _ us (by simpa using hl) (hlist hr)
  |fn f cap us hl hr=>exact .fn f _ us (by simpa using hl) (hlist hr)
  |mfn f cap us hl hr=>exact .mfn f _ us (by simpa using hl) (hlist hr)
end
end Go.Abs
namespace Go.Abs
open Go Go.RowKit
def ZdA (d k:Nat):Nat:=(k+1)*1000+d
theorem Zil {d k k':Nat}(h:ZdA d k=ZdA d k'):k=k':=by unfold ZdA at h;omega
def ZgG:Nat->V->Option (List Nat)
 |0,_=>none
 |n+1,v=>match v with
  |.ref k _ _ _=>some [k]
  |.ptr _ _=>none
  |.agg cs=>cs.foldr (fun v acc=>match ZgG n v,acc with|some a,some b=>some (a++b)|_,_=>none) (some [])
  |.tup cs=>cs.foldr (fun v acc=>match ZgG n v,acc with|some a,some b=>some (a++b)|_,_=>none) (some [])
  |.fn _ []=>some []
  |.fn _ _=>none
  |_=>some []
def ZB9 (st:St):List Nat->Option (List (Nat×List V))
 |[]=>some []
 |k::ks=>match st.obj k,ZB9 st ks with
  |some o,some l=>bif o.flat then(bif ks.contains k then some l else some ((k,o.cs)::l))else none
  |_,_=>none
def ZwN (P:Program)(st:St):ResultVar->Option (Prop×V)
 |.tmp t=>some (True,st.get t)
 |.cell a t=>ZiL P st t (st.get a)
def Zmf (tmps:Array Value):ResultVar->Sem Value
 |.tmp t=>pure (tmps.getD t undef)
 |.cell a t=>do loadVar t (<- asAddr (tmps.getD a undef))
theorem Zj6 (fn:Func)(tmps:Array Value):results fn tmps=(do
 let vs <- fn.results.mapM (Zmf tmps)
 pure (if h:vs.size=1 then vs[0]else .tuple vs)):=by
 unfold results
 congr 1
def Zrk (P:Program)(st:St):List ResultVar->Option (Prop×List V)
 |[]=>some (True,[])
 |x::l=>match ZwN P st x,Zrk P st l with
  |some (c,v),some (cs,vs)=>some (c/\cs,v::vs)
  |_,_=>none
def ZCa (P:Program)(st:St)(l:List ResultVar):Option (Prop×V):=
 match Zrk P st l with
 |some (c,[v])=>some (c,v)
 |some (c,vs)=>some (c,.tup vs)
 |none=>none
def ZcH:Nat->List V->List (Nat×V)
 |_,[]=>[]
 |i,v::l=>(i,v)::ZcH (i+1) l
def st0 (n:Nat)(args:List V):St:={ n:=n,slots:=ZcH 0 args,mem:=[],lent:=[] }
def Zf4 (P:Program)(rs:List ResultVar)(R:V->List (Nat×List V)->Prop):Exit->St->Prop:=fun e st=>
 (e= .ret\/e= .normal)/\ ∃c r ks m,ZCa P st rs=some (c,r)/\c/\ZgG 4 r=some ks/\ZB9 st ks=some m/\R r m
def Za (P:Program)(f:FuncId):Bool:=
 match P.funcs[f]? with
 |some fn=>fn.name != "runtime.NumGoroutine" && fn.body.isSome
 |none=>false
section
variable {P:Program}{C:Ctx}{S:Nat->Prop}{β:Nat->Option BI}{st st':St}{a:Act}{w w':World}{Q:Exit->St->Prop}{ops:Array Oper}{rest:List Oper}{o:Oper}
theorem ZiR {n:Nat}: ∀{cs:List V} {ks:List Nat},cs.foldr (fun v acc=>match ZgG n v,acc with|some a,some b=>some (a++b)|_,_=>none) (some [])=some ks-> ∀v∈cs,∃kv,ZgG n v=some kv/\ ∀k∈kv,k∈ks
 |[],_,_,v,hv=>by cases hv
 |c::cs,ks,h,v,hv=>by
  rw[List.foldr_cons]at h
  split at h<;>first|(cases h;done)|skip
  rename_i x y hx hy
  injection h with h
  subst h
  rcases Yav.1 hv with rfl|hv
  ·exact⟨x,hx,fun k hk=>List.mem_append.2 (.inl hk)⟩
  ·obtain⟨kv,h1,h2⟩:=ZiR hy v hv
   exact⟨kv,h1,fun k hk=>List.mem_append.2 (.inr (h2 k hk))⟩
theorem VR.restrict {β':Nat->Option BI}: ∀(n:Nat) {v:V} {u:Value} {ks:List Nat},ZgG n v=some ks->(∀k∈ks,β' k=β k)->VR S w β v u->VR S w β' v u:=by
 intro n
 induction n with
 |zero=>intro v u ks h;simp[ZgG]at h
 |succ n ih=>
  intro v u ks h hk hv
  cases hv with
  |flat h=>exact .flat h
  |any u=>exact .any u
  |ref k off m sz A c hh=>
   simp only[ZgG,Yac]at h
   subst h
   refine .ref k off m sz A c ?_
   rw[hk k (by simp)];exact hh
  |ptr=>simp[ZgG]at h
  |agg cs us hl hr=>
   simp only[ZgG]at h
   refine .agg cs us hl fun j v u hj hu=> ?_
   obtain⟨kv,h1,h2⟩:=ZiR h v (Ya0 hj)
   exact ih h1 (fun k hkk=>hk k (h2 k hkk)) (hr j v u hj hu)
  |tup cs us hl hr=>
   simp only[ZgG]at h
   refine .tup cs us hl fun j v u hj hu=> ?_
   obtain⟨kv,h1,h2⟩:=ZiR h v (Ya0 hj)
   exact ih h1 (fun k hkk=>hk k (h2 k hkk)) (hr j v u hj hu)
  |fn f cap us hl hr=>
   cases cap with
   |nil=>exact .fn f [] us hl (fun j v u hj=>by simp at hj)
   |cons=>simp[ZgG]at h
  |mfn f cap us hl hr=>
   cases cap with
   |nil=>exact .mfn f [] us hl (fun j v u hj=>by simp at hj)
   |cons=>simp[ZgG]at h
theorem ZkN: ∀{ks:List Nat} {m:List (Nat×List V)},ZB9 st ks=some m->(∀k∈ks,∃cs,(k,cs)∈m)/\(∀k cs,(k,cs)∈m->k∈ks/\st.obj k=some { flat:=true,cs:=cs })/\(m.map (·.1)).Nodup
 |[],m,h=>by
  simp only[ZB9,Yac]at h
  subst h
  exact⟨fun k hk=>(by cases hk),fun k cs hk=>(by cases hk),List.nodup_nil⟩
 |k::ks,m,h=>by
  simp only[ZB9]at h
  split at h<;>first|(cases h;done)|skip
  rename_i o l ho hl
  obtain⟨h1,h2,h3⟩:=ZkN hl
  cases hf:o.flat with
  |false=>rw[hf]at h;cases h
  |true=>
   rw[hf]at h
   simp only[cond_true]at h
   cases hc:ks.contains k with
   |true=>
    rw[hc]at h
    simp only[cond_true,Yac]at h
    subst h
    refine⟨fun k' hk'=> ?_,fun k' cs hk'=>⟨Yaq _ (h2 k' cs hk').1,(h2 k' cs hk').2⟩,h3⟩
    rcases Yav.1 hk' with rfl|hk'
    ·exact h1 k' (List.contains_iff_mem.1 hc)
    ·exact h1 k' hk'
   |false=>
    rw[hc]at h
    simp only[cond_false,Yac]at h
    subst h
    refine⟨fun k' hk'=> ?_,fun k' cs hk'=> ?_,?_⟩
    ·rcases Yav.1 hk' with rfl|hk'
     ·exact⟨o.cs,List.mem_cons_self⟩
     ·obtain⟨cs,h⟩:=h1 k' hk';exact⟨cs,Yaq _ h⟩
    ·rcases Yav.1 hk' with e|hk'
     ·cases e
      exact⟨List.mem_cons_self,by rw[ho,<- hf]⟩
     ·exact⟨Yaq _ (h2 k' cs hk').1,(h2 k' cs hk').2⟩
    ·simp only[List.map_cons,List.nodup_cons]
     refine⟨fun hm=> ?_,h3⟩
     obtain⟨p,hp,hp1⟩:=Ya3.1 hm
     obtain⟨k',cs⟩:=p
     simp only at hp1
     subst hp1
     have:=(h2 k' cs hp).1
     rw[<- List.contains_iff_mem,hc]at this
     cases this
theorem Zn1 {rv:ResultVar}{c:Prop}{v:V}(h:ZwN P st rv=some (c,v))(hc:c)(hsr:SR C S β st a w) :
 ∃u,(Zmf a.tmps rv).run P w= .ok u w/\VR S w β v u:=by
 cases rv with
 |tmp t=>
  simp only[ZwN,Yac,Yai]at h
  obtain⟨_,rfl⟩:=h
  exact⟨_,rfl,hsr.slots t⟩
 |cell ad t=>
  simp only[ZwN]at h
  obtain⟨u,hr,hv⟩:=ZiO (P:=P) h hc (hsr.slots ad) hsr
  refine⟨u,?_,hv⟩
  have hs:=hsr.slots ad
  simp only[Zmf]
  generalize a.tmps.getD ad undef=x at hr hs ⊢
  unfold ZiL at h
  split at h<;>first|(cases h;done)|skip
  split at h<;>first|(cases h;done)|skip
  ·rename_i hk;rw[hk]at hs
   obtain⟨b,oo,us,rfl,_⟩:=ZgB hs
   simpa[Instr.loadAt,Instr.sureAddr,asAddr]using hr
  ·rename_i hk;rw[hk]at hs
   obtain⟨bi,hbi,rfl⟩:=VR.ptr_inv hs
   simpa[Instr.loadAt,Instr.sureAddr,asAddr]using hr
theorem ZiS (hsr:SR C S β st a w): ∀{l:List ResultVar} {c:Prop} {vs:List V},Zrk P st l=some (c,vs)->c->
 ∃us:List Value,(l.mapM (Zmf a.tmps)).run P w= .ok us w/\vs.length=us.length/\ ∀(j:Nat) (v:V) (u:Value),vs[j]? = some v->us[j]? = some u->VR S w β v u
 |[],c,vs,h,_=>by
  simp only[Zrk,Yac,Yai]at h
  obtain⟨_,rfl⟩:=h
  exact⟨[],by simp,rfl,fun j v u hv=>by simp at hv⟩
 |rv::l,c,vs,h,hc=>by
  simp only[Zrk]at h
  split at h<;>first|(cases h;done)|skip
  rename_i c1 v1 c2 vs2 h1 h2
  simp only[Yac,Yai]at h
  obtain⟨rfl,rfl⟩:=h
  obtain⟨u1,hr1,hv1⟩:=Zn1 h1 hc.1 hsr
  obtain⟨us,hr2,hl,hp⟩:=ZiS hsr h2 hc.2
  refine⟨u1::us,?_,by simp[hl],?_⟩
  ·rw[List.mapM_cons]
   simp only[Sem.run_bind,hr1,Result.andThen_ok,hr2,Sem.run_pure]
  ·intro j v u hv hu
   cases j with
   |zero=>simp at hv hu;subst hv hu;exact hv1
   |succ j=>exact hp j v u (by simpa using hv) (by simpa using hu)
theorem Zd0 (hsr:SR C S β st a w){fn:Func}{c:Prop}{v:V}(h:ZCa P st fn.results.toList=some (c,v))(hc:c): ∃u,(results fn a.tmps).run P w= .ok u w/\VR S w β v u:=by
 unfold ZCa at h
 have key: ∀{vs:List V},Zrk P st fn.results.toList=some (c,vs)-> ∃us:List Value,(fn.results.mapM (Zmf a.tmps)).run P w= .ok us.toArray w/\vs.length=us.length/\ ∀(j:Nat) (v:V) (u:Value),vs[j]? = some v->us[j]? = some u->VR S w β v u:=by
  intro vs hvs
  obtain⟨us,hr,hl,hp⟩:=ZiS hsr hvs hc
  refine⟨us,?_,hl,hp⟩
  rw[Array.mapM_eq_mapM_toList,Sem.run_map,hr]
  rfl
 split at h
 ·rename_i c' v' hvs
  simp only[Yac,Yai]at h
  obtain⟨rfl,rfl⟩:=h
  obtain⟨us,hr,hl,hp⟩:=key hvs
  match us,hl with
  |[u],_=>
   refine⟨u,?_,hp 0 _ _ rfl rfl⟩
   rw[Zj6]
   simp only[Sem.run_bind,hr,Result.andThen_ok]
   rfl
 ·rename_i c' vs' hne hvs
  simp only[Yac,Yai]at h
  obtain⟨rfl,rfl⟩:=h
  obtain⟨us,hr,hl,hp⟩:=key hvs
  refine⟨.tuple us.toArray,?_,.tup _ _ (by simpa using hl) (by simpa using hp)⟩
  rw[Zj6]
  simp only[Sem.run_bind,hr,Result.andThen_ok]
  have h1:us.length≠1:=by
   intro h1
   rw[<- hl]at h1
   match vs',h1 with
   |[v],_=>exact hne v rfl
  simp[h1]
 ·cases h
theorem Zb4 (i:Nat): ∀(l:List V) (k:Nat),lk (ZcH k l) i=if k<=i then l[i-k]? else none
 |[],k=>by simp[ZcH,lk]
 |v::l,k=>by
  simp only[ZcH,lk]
  by_cases h:k=i
  ·subst h;simp
  ·rw[show(k==i)=false from by simpa using h]
   simp only[cond_false,Zb4 i l (k+1)]
   by_cases h2:k<=i
   ·rw[if_pos (by omega),if_pos h2]
    have:i-k=(i-(k+1))+1:=by omega
    rw[this,List.getElem?_cons_succ]
   ·rw[if_neg (by omega),if_neg h2]
theorem AC.enter {f:FuncId}{fn:Func}{c:Code}{args:List V}{R:V->List (Nat×List V)->Prop}(hf:P.funcs[f]? = some fn)(hb:fn.body=some c)(hn:args.length<=fn.ntmps)
 (h:AW P c (Zf4 P fn.results.toList R) (st0 fn.ntmps args)):AC P f args R:=by
 intro S w us hS hl hargs
 refine calls_of_wp hf hb ?_
 let C:Ctx:=⟨S,w,fun _=>False,hS,fun _ _ h=>h,[]⟩
 have hinit:SR C S (fun _=>none) (st0 fn.ntmps args) { tmps:=us.toArray++Array.replicate (fn.ntmps-us.toArray.size) undef,defers:=[] } w:={
  tsize:=by simp[st0];omega
  slots:=fun i=>by
   simp only[St.get,st0,Zb4,Nat.zero_le,if_true,Nat.sub_zero]
   cases hi:args[i]? with
   |none=>exact .any _
   |some v=>
    have hlt:i<us.length:=by rw[<- hl];exact(Yak.1 hi).1
    have hu:us[i]? = some us[i]:=Yab hlt
    have:(us.toArray++Array.replicate (fn.ntmps-us.toArray.size) undef).getD i undef=us[i]:=by
      rw[Yan,Array.getElem?_append_left (by simpa using hlt)]
      simp[hlt]
    rw[this]
    exact hargs i v _ hi hu
  defers:=rfl
  objs:=fun k o ho=>by simp[St.obj,st0,lk]at ho
  inj:=fun k k' bi bi' hk=>by simp[St.obj,st0,lk]at hk
  own:=fun k bi hk=>by simp[St.obj,st0,lk]at hk
  pins:=fun k bi hk=>by simp[st0]at hk
  sub:=fun b hb=>hb
  snew:=fun b hb=> .inl hb
  slt:=hS.1
  frame:=⟨rfl,rfl,rfl,Nat.le_refl _,fun _ _ _=>rfl⟩ }
 refine wp_mono (h C _ w ⟨S,_,hinit⟩) fun e a' w' ⟨st',⟨he,cc,r,ks,m,hres,hcc,hks,hout,hR⟩,S',β',hs⟩=> ?_
 obtain⟨u,hrun,hv⟩:=Zd0 hs hres hcc
 obtain⟨m1,m2,m3⟩:=ZkN hout
 have hin: ∀k cs,(k,cs)∈m->(if k∈ks then β' k else none)=β' k:=fun k cs hk=>if_pos (m2 k cs hk).1
 have hOut:Out S w w' r m u:=by
  refine⟨⟨S',fun k=>if k∈ks then β' k else none,hs.sub,fun b hb=> ?_,?_,?_,?_,?_,?_,m3⟩,hs.frame⟩
  ·rcases hs.snew b hb with h1|h1
   ·exact .inl h1
   ·exact .inr ⟨h1,hs.slt b hb⟩
  ·exact VR.restrict 4 hks (fun k hk=>if_pos hk) hv
  ·intro k cs hk
   rcases hs.objs k _ (m2 k cs hk).2 with⟨h1,h2,h3⟩|⟨bi,cur,e',fz,hbi,hr⟩
   ·exact .inl ⟨h1,h2,(hin k cs hk).trans h3⟩
   ·refine .inr ⟨bi,cur,e',fz,(hin k cs hk).trans hbi,hr.heap,hr.size,hr.free,hr.fits,hr.len,?_⟩
    intro i v hv
    obtain⟨u,hu,h1,hr'⟩:=hr.cells i v hv
    exact⟨u,hu,h1,by rw[if_pos rfl]at hr' ⊢;exact hr'⟩
  ·intro k cs bi hk hbi
   replace hbi:=(hin k cs hk).symm.trans hbi
   have:=hs.own k bi (by rw[(m2 k cs hk).2];rfl) hbi
   exact⟨this.2.resolve_right (fun h=>h.1),this.1⟩
  ·intro k k' cs cs' bi bi' hk hk' hbi hbi' hblk
   replace hbi:=(hin k cs hk).symm.trans hbi
   replace hbi':=(hin k' cs' hk').symm.trans hbi'
   exact hs.inj k k' bi bi' (by rw[(m2 k cs hk).2];rfl) (by rw[(m2 k' cs' hk').2];rfl) hbi hbi' hblk
  ·intro k hk
   refine if_neg fun hkk=> ?_
   obtain⟨cs,h⟩:=m1 k hkk
   exact hk cs h
 rcases he with rfl|rfl
 ·exact⟨hs.defers,u,hrun,r,m,u,hR,rfl,hOut⟩
 ·exact⟨hs.defers,u,hrun,r,m,u,hR,rfl,hOut⟩
end
end Go.Abs
namespace Go.Abs
open Go Go.RowKit
def Zd1:V->Prop
 |.int _ _|.bool _|.str _|.con _|.nils|.any=>True
 |.ref _ _ _ _=>True
 |_=>False
def Zhr:V->Prop
 |.tup vs=> ∀v∈vs,Zd1 v\/ ∃cs,v= .agg cs/\ ∀c∈cs,Zd1 c
 |.agg vs=> ∀v∈vs,Zd1 v
 |v=>Zd1 v
def St.vw1 (st:St):V->V
 |.ref k off n sz=>match st.obj k with
  |some o=>bif o.flat then .view n sz ((o.cs.drop off).take (n*sz))else .ref k off n sz
  |none=> .ref k off n sz
 |.ptr k off=>match st.obj k with
  |some o=>bif o.flat||o.cs.all ZbJ then .vptr (o.cs.drop off)else .ptr k off
  |none=> .ptr k off
 |v=>v
def St.vw (st:St):V->V
 |.agg cs=> .agg (cs.map st.vw1)
 |v=>st.vw1 v
section
variable {P:Program}{C:Ctx}{S:Nat->Prop}{β:Nat->Option BI}{st st':St}{a:Act}{w w':World}{Q:Exit->St->Prop}{ops:Array Oper}{rest:List Oper}{o:Oper}
theorem Zph: ∀(m:List (Nat×List V)) (d:Nat) (st:St),(st.adoptL d m).n=st.n
 |[],_,_=>rfl
 |(_,_)::m,d,st=>by simp only[St.adoptL];rw[Zph m];rfl
theorem SR.adoptL {d:Nat}{β':Nat->Option BI}{hw:Nat}(hw0:C.w0.heap.size<=hw): ∀(m:List (Nat×List V)) (done:List (Nat×List V)) {β:Nat->Option BI} {st:St},SR C S β st a w->
 (∀k cs,(k,cs)∈m->OR S w β' k { flat:=true,cs:=cs })->(∀k cs bi,(k,cs)∈m->β' k=some bi->hw<=bi.blk/\ ¬S bi.blk)->
 (∀k k' cs cs' bi bi',(k,cs)∈done++m->(k',cs')∈done++m->β' k=some bi->β' k'=some bi'->bi.blk=bi'.blk->k=k')->((done++m).map (·.1)).Nodup->
 (∀k cs,(k,cs)∈done->β (ZdA d k)=β' k)->
 (∀j bj,(st.obj j).isSome=true->β j=some bj->bj.blk<hw\/ ∃k cs,(k,cs)∈done/\j=ZdA d k)->
 ∃β2,SR C S β2 (st.adoptL d m) a w/\ ∀k cs,(k,cs)∈done++m->β2 (ZdA d k)=β' k
 |[],done,β,st,h,_,_,_,_,hd,_=>⟨β,h,fun k cs hk=>hd k cs (by simpa using hk)⟩
 |(k,cs)::m,done,β,st,h,hor,hfr,hinj,hnd,hd,hold=>by
  simp only[St.adoptL]
  have hor1:=hor k cs List.mem_cons_self
  have hkd: ∀k' cs',(k',cs')∈done->k'≠k:=by
    intro k' cs' hk' e
    subst e
    rw[List.map_append,List.nodup_append]at hnd
    exact hnd.2.2 k' (Ya3.2 ⟨_,hk',rfl⟩) k' (by simp) rfl
  have h1:=h.adopt (ZdA d k) cs (β' k) (fun j=>if j=ZdA d k then β' k else none) (if_pos rfl) (by
    rcases hor1 with⟨e1,e2,e3⟩|⟨bi,cur,e,fz,hbi,hr⟩
    ·exact .inl ⟨e1,e2,(if_pos rfl).trans e3⟩
    ·refine .inr ⟨bi,cur,e,fz,(if_pos rfl).trans hbi,hr.heap,hr.size,hr.free,hr.fits,hr.len,?_⟩
     intro i v hv
     obtain⟨u,hu,hu1,hr'⟩:=hr.cells i v hv
     exact⟨u,hu,hu1,by rw[if_pos rfl]at hr' ⊢;exact hr'⟩) (fun x hx=>by
    have hf:=hfr k cs x List.mem_cons_self hx
    refine⟨by omega,hf.2,fun j bj hj hs hbj e=> ?_⟩
    rcases hold j bj hs hbj with hlt|⟨k',cs',hk',rfl⟩
    ·omega
    ·rw[hd k' cs' hk']at hbj
     have:=hinj k' k cs' cs bj x (List.mem_append.2 (.inl hk')) (List.mem_append.2 (.inr List.mem_cons_self)) hbj hx e
     exact hj (by rw[this]))
  have:=SR.adoptL hw0 m (done++[(k,cs)]) h1 (fun k' cs' hk'=>hor k' cs' (Yaq _ hk')) (fun k' cs' bi hk' hbi=>hfr k' cs' bi (Yaq _ hk') hbi)
    (by simpa using hinj) (by simpa using hnd) (fun k' cs' hk'=>by
     rcases List.mem_append.1 hk' with hk'|hk'
     ·rw[ZbO _ _ _ _ (fun e=>hkd k' cs' hk' (Zil e))];exact hd k' cs' hk'
     ·simp only[List.mem_singleton,Yai]at hk'
      obtain⟨rfl,rfl⟩:=hk'
      exact ZaU _ _ _) (fun j bj hs hbj=>by
     rw[St.obj_repl]at hs
     by_cases e:j=ZdA d k
     ·exact .inr ⟨k,cs,by simp,e⟩
     ·rw[ZbO _ _ _ _ e]at hbj
      rw[if_neg e]at hs
      rcases hold j bj (by simpa using hs) hbj with hlt|⟨k',cs',hk',e'⟩
      ·exact .inl hlt
      ·exact .inr ⟨k',cs',List.mem_append.2 (.inl hk'),e'⟩)
  rw[Ya6]at this
  exact this
theorem SR.called (h:SR C S β st a w){d:Nat}(hd:d<st.n){r:V}{m:List (Nat×List V)}{u:Value}{S':Nat->Prop}{β':Nat->Option BI}(hfr:ZhV (fun _=>False) w w')
 (hS: ∀b,S b->S' b) (hS': ∀b,S' b->S b\/(w.heap.size<=b/\b<w'.heap.size)) (hv:VR S' w' β' r u) (hor: ∀k cs,(k,cs)∈m->OR S' w' β' k { flat:=true,cs:=cs })
 (hfresh: ∀k cs bi,(k,cs)∈m->β' k=some bi->w.heap.size<=bi.blk/\ ¬S' bi.blk) (hinj: ∀k k' cs cs' bi bi',(k,cs)∈m->(k',cs')∈m->β' k=some bi->β' k'=some bi'->bi.blk=bi'.blk->k=k')
 (hnone: ∀k,(∀cs,(k,cs)∉m)->β' k=none) (hnd:(m.map (·.1)).Nodup):SRx C ((st.adoptL d m).put d (Zae d 4 r)) (a.put (some d) u) w':=by
 have h1:=h.grow hfr.os hfr.tape hfr.output hfr.size (fun b hb=>hfr.block b hb (fun h=>h)) hS hS'
 obtain⟨β2,h2,h3⟩:=SR.adoptL (d:=d) (β':=β') (hw:=w.heap.size) h.frame.size m [] h1 hor hfresh (by simpa using hinj) (by simpa using hnd) (fun k cs hk=>by cases hk) (fun j bj hs hbj=> .inl (h.blk_lt hs hbj))
 refine⟨S',β2,h2.put (by rw[Zph];exact hd) ?_⟩
 refine ZwM (fun k=> ?_) 4 hv
 by_cases hk: ∃cs,(k,cs)∈m
 ·obtain⟨cs,hk⟩:=hk
  exact .inr (h3 k cs (by simpa using hk))
 ·exact .inl (hnone k (fun cs hc=>hk ⟨cs,hc⟩))
theorem Zhs {v:V}{u:Value}(h:VR S w β v u)(hf:ZcY v=true):VR S w (fun _=>none) v u:=by
 cases v with
 |agg cs=>
  obtain⟨us,rfl,hl,hr⟩:=VR.agg_inv h
  refine .agg cs us hl fun j v u hj hu=> ?_
  simp only[ZcY,Yat]at hf
  exact .flat (ZgD (hf v (Ya0 hj)) (hr j v u hj hu))
 |fagg cs=>
  obtain⟨us,rfl,hl,hr,h1⟩:=VR.fagg_inv h
  exact .flat (.fagg cs us hl hr h1)
 |_=>exact .flat (ZgD hf h)
theorem Zfy {f:FuncId}{args:Array Operand}{argTypes:Array TypeId}(ho:o.op= .call { callee:= .value (.func f),args,argTypes })(hf:Za P f=true):(execOp a.eval o).run P w= .ok (.enter f (args.map a.eval)) w:=by
 unfold Za at hf
 split at hf<;>first|(cases hf;done)|skip
 rename_i fn hfn
 simp only[Yao,bne_iff_ne,ne_eq]at hf
 have h2: ¬fn.body=none:=by intro e;rw[e]at hf;simp at hf
 unfold execOp
 simp[ho,resolve,Deferred.ofValue,Act.eval,invoke,callFunc,hfn,hf.1,h2]
theorem AWL.call {f:FuncId}{args:Array Operand}{argTypes:Array TypeId}{d:Nat}{R:V->List (Nat×List V)->Prop}(hg:o.guard=none)(ho:o.op= .call { callee:= .value (.func f),args,argTypes })(hd:o.dst=some d)(hf:Za P f=true)
 (hst:args.toList.foldl (fun st x=>st.frzV (st.ev x)) st=st') (hdn:d<st'.n) (hfl:((args.toList.map st'.ev).all ZcY)=true) (hAC:AC P f (args.toList.map st'.ev) R)
 (k: ∀r m,R r m->AWL P ops rest Q ((st'.adoptL d m).put d (Zae d 4 r))):AWL P ops (o::rest) Q st:=fun C a w ⟨S,β,hs⟩=>by
 have hs1: ∃S',SR C S' β st' a w:=by
  rw[<- hst]
  have: ∀(l:List Operand) {S:Nat->Prop} {st:St},SR C S β st a w-> ∃S',SR C S' β (l.foldl (fun st x=>st.frzV (st.ev x)) st) a w:=by
   intro l
   induction l with
   |nil=>intro S st h;exact⟨S,h⟩
   |cons x l ih=>intro S st h;obtain⟨S',h'⟩:=h.frzV (st.ev x);exact ih h'
  exact this _ hs
 obtain⟨S1,hs1⟩:=hs1
 refine wpList_plain hg fun K hK=> ?_
 unfold Oper.wp
 rw[Zfy ho hf]
 have hc:=hAC S1 w (args.toList.map a.eval) hs1.sok (by simp) (fun j v u hv hu=>by
  rw[Yat]at hfl
  exact Zhs (ZiQ hs1 _ j v u hv hu) (hfl v (Ya0 hv)))
 have e:(args.toList.map a.eval).toArray=args.map a.eval:=by rw[<- Array.toList_map]
 rw[e]at hc
 refine Calls.mono hc ?_
 rintro e' w' ⟨r,m,u,hR,rfl,⟨S',β',h1,h2,h3,h4,h5,h6,h7,h8⟩,hfr⟩
 have:=hs1.called (d:=d) hdn hfr h1 h2 h3 h4 h5 h6 h7 h8
 show K (a.put o.dst u) w'
 rw[hd]
 exact hK _ _ (k r m hR C _ w' this)
theorem ZgH {S2:Nat->Prop}{v:V}{u:Value}(hn:Zd1 v)(h:VR S w β v u):VR S2 w β v u:=by
 cases h with
 |flat h=>cases h with
  |int k n=>exact .flat (.int k n)
  |bool b=>exact .flat (.bool b)
  |str s=>exact .flat (.str s)
  |con=>exact .flat (.con _)
  |nils A=>exact .flat (.nils A)
  |view=>exact hn.elim
  |vptr=>exact hn.elim
  |fagg=>exact hn.elim
  |fn=>exact hn.elim
  |clo=>exact hn.elim
  |mclo=>exact hn.elim
 |any u=>exact .any u
 |ref k off n sz A c h=>exact .ref k off n sz A c h
 |ptr=>exact hn.elim
 |agg=>exact hn.elim
 |tup=>exact hn.elim
 |fn=>exact hn.elim
 |mfn=>exact hn.elim
theorem ZsH {S2:Nat->Prop}{v:V}{u:Value}(hn:Zd1 v)(h:FR S w v u):FR S2 w v u:=by
 cases h with
 |int k n=>exact .int k n
 |bool b=>exact .bool b
 |str s=>exact .str s
 |con=>exact .con _
 |nils A=>exact .nils A
 |view=>exact hn.elim
 |vptr=>exact hn.elim
 |fagg=>exact hn.elim
 |fn=>exact hn.elim
 |clo=>exact hn.elim
 |mclo=>exact hn.elim
theorem Zrl {S2:Nat->Prop}{v:V}{u:Value}(hn:Zhr v)(h:VR S w β v u):VR S2 w β v u:=by
 cases v with
 |agg cs=>
  obtain⟨us,rfl,hl,hr⟩:=VR.agg_inv h
  exact .agg cs us hl fun j v u hj hu=>ZgH (hn v (Ya0 hj)) (hr j v u hj hu)
 |tup vs=>
  cases h with
  |flat h=>cases h
  |tup _ us hl hr=>
   refine .tup vs us hl fun j v u hj hu=> ?_
   rcases hn v (Ya0 hj)with h1|⟨cs,rfl,h1⟩
   ·exact ZgH h1 (hr j v u hj hu)
   ·obtain⟨us',rfl,hl',hr'⟩:=VR.agg_inv (hr j _ u hj hu)
    exact .agg cs us' hl' fun i v u hi hu=>ZgH (h1 v (Ya0 hi)) (hr' i v u hi hu)
 |_=>exact ZgH hn h
theorem Zpi {v:V}{u:Value}(h:VR S w β v u)(hsr:SR C S β st a w)(hf:ZbJ (st.vw1 v)=true):FR (fun b=>b<w.heap.size) w (st.vw1 v) u:=by
 have hS: ∀b,S b->b<w.heap.size:=hsr.slt
 have plain: ∀{v:V} {u:Value},VR S w β v u->ZbJ v=true->FR (fun b=>b<w.heap.size) w v u:=fun h hf=>(ZgD hf h).step hS (fun _ _=>rfl)
 cases v with
 |ref k off n sz=>
  simp only[St.vw1]at hf ⊢
  split at hf
  ·rename_i o ho
   cases hfl:o.flat with
   |false=>rw[hfl]at hf;simp[ZbJ]at hf
   |true=>
    simp only[cond_true]
    obtain⟨A,c,rfl,hcase⟩:=VR.ref_inv h
    rcases hcase with⟨rfl,rfl⟩|⟨bi,hbi,rfl,hn,_,hfit⟩
    ·refine .view 0 sz _ A 0 (fun _=>undef) (by simp) (Nat.le_refl _) (fun hne=> ?_) (fun j v hj=> ?_) (fun j v hj=> ?_)
     ·simp at hne
     ·simp at hj
     ·simp at hj
    ·rcases hsr.objs k o ho with⟨_,_,h3⟩|⟨bi',cur,e,fz,hbi',hor⟩
     ·rw[h3]at hbi;cases hbi
     ·rw[hbi']at hbi;cases hbi
      exact hor.view hfl hS (Zge hor.heap) hn hfit
  ·simp[ZbJ]at hf
 |ptr k off=>
  simp only[St.vw1]at hf ⊢
  split at hf
  ·rename_i o ho
   cases hfl:o.flat||o.cs.all ZbJ with
   |false=>rw[hfl]at hf;simp[ZbJ]at hf
   |true=>
    simp only[cond_true]
    obtain⟨bi,hbi,rfl⟩:=VR.ptr_inv h
    rcases hsr.objs k o ho with⟨_,_,h3⟩|⟨bi',cur,e,fz,hbi',hor⟩
    ·rw[h3]at hbi;cases hbi
    rw[hbi']at hbi;cases hbi
    have hcell: ∀(j:Nat) (v:V),o.cs[off+j]? = some v-> ∃u,cur[bi.off+off+j]? = some u/\v.cell1=true/\FR (fun b=>b<w.heap.size) w v u:=by
       intro j v hv
       obtain⟨u,hu,_,hr⟩:=hor.cells _ _ hv
       rw[<- Nat.add_assoc]at hu
       refine⟨u,hu,?_⟩
       split at hr
       ·exact⟨hr.1,hr.2.step hS (fun _ _=>rfl)⟩
       ·rename_i hnf
        rw[show o.flat=false by simpa using hnf]at hfl
        simp only[Bool.false_or,Yat]at hfl
        have hv':=hfl v (Ya0 hv)
        exact⟨Zem hv',plain hr hv'⟩
    refine .vptr _ bi.blk (bi.off+off) (fun j=>cur.getD (bi.off+off+j) undef) (fun _=>Zge hor.heap) ?_ ?_ ?_
    ·intro j v hj
     rw[Ya2]at hj
     obtain⟨u,hu,_,_⟩:=hcell j v hj
     rw[Zbc hor,Yan,hu];rfl
    ·intro j v hj
     rw[Ya2]at hj
     obtain⟨u,hu,_,hr⟩:=hcell j v hj
     simp only[Yan,hu,Option.getD_some]
     exact hr
    ·intro j v hj
     rw[Ya2]at hj
     exact(hcell j v hj).choose_spec.2.1
  ·simp[ZbJ]at hf
 |_=>exact plain h hf
theorem AWL.callS {f:FuncId}{args:Array Operand}{argTypes:Array TypeId}{d:Nat}{R:V->List (Nat×List V)->Prop}(hg:o.guard=none)(ho:o.op= .call { callee:= .value (.func f),args,argTypes })(hd:o.dst=some d)(hf:Za P f=true)
 (hdn:d<st.n) (hfl:((args.toList.map fun x=>st.vw (st.ev x)).all ZcY)=true) (hAC:AC P f (args.toList.map fun x=>st.vw (st.ev x)) R)
 (k: ∀r m,R r m->(Zhr r/\ ∀k cs,(k,cs)∈m-> ∀v∈cs,Zd1 v)/\AWL P ops rest Q ((st.adoptL d m).put d (Zae d 4 r))):AWL P ops (o::rest) Q st:=fun C a w ⟨S,β,hs⟩=>by
 refine wpList_plain hg fun K hK=> ?_
 unfold Oper.wp
 rw[Zfy ho hf]
 have hc:=hAC (fun b=>b<w.heap.size) w (args.toList.map a.eval) ⟨fun b hb=>hb,hs.sok.2.step hs.slt fun _ _=>rfl⟩ (by simp) (fun j v u hv hu=>by
  rw[Yat]at hfl
  have hvf:=hfl v (Ya0 hv)
  rw[Yas,Yaj]at hv hu
  obtain⟨x,hx,rfl⟩:=hv
  obtain⟨y,hy,rfl⟩:=hu
  rw[hx]at hy;cases hy
  have hx:=Zag hs x
  generalize st.ev x=v at hx hvf ⊢
  cases v with
  |agg cs=>
   obtain⟨us,hu,hl,hr⟩:=VR.agg_inv hx
   rw[hu]
   simp only[St.vw]at hvf ⊢
   refine .agg _ us (by simpa using hl) fun i v' u' hi hu'=> ?_
   simp only[ZcY,Yat]at hvf
   have hv':=hvf v' (Ya0 hi)
   rw[Yas,Yaj]at hi
   obtain⟨v0,hv0,rfl⟩:=hi
   exact .flat (Zpi (hr i v0 u' hv0 hu') hs hv')
  |fagg cs=>
   obtain⟨us,hu,hl,hr,h1⟩:=VR.fagg_inv hx
   rw[hu]
   exact .flat ((FR.fagg cs us hl hr h1).step hs.slt (fun _ _=>rfl))
  |ref k' off n sz=>
   simp only[St.vw]at hvf ⊢
   refine .flat (Zpi hx hs ?_)
   have hcase:(∃cs,st.vw1 (.ref k' off n sz)= .view n sz cs)\/st.vw1 (.ref k' off n sz)= .ref k' off n sz:=by
     simp only[St.vw1]
     split
     ·rename_i ob _
      cases ob.flat
      ·exact .inr rfl
      ·exact .inl ⟨_,rfl⟩
     ·exact .inr rfl
   rcases hcase with⟨cs,e⟩|e
   ·rw[e];rfl
   ·rw[e]at hvf ⊢;exact hvf
  |ptr k' off=>
   simp only[St.vw]at hvf ⊢
   refine .flat (Zpi hx hs ?_)
   have hcase:(∃cs,st.vw1 (.ptr k' off)= .vptr cs)\/st.vw1 (.ptr k' off)= .ptr k' off:=by
     simp only[St.vw1]
     split
     ·rename_i ob _
      cases ob.flat||ob.cs.all ZbJ
      ·exact .inr rfl
      ·exact .inl ⟨_,rfl⟩
     ·exact .inr rfl
   rcases hcase with⟨cs,e⟩|e
   ·rw[e];rfl
   ·rw[e]at hvf ⊢;exact hvf
  |_=>exact .flat (Zpi hx hs hvf))
 have e:(args.toList.map a.eval).toArray=args.map a.eval:=by rw[<- Array.toList_map]
 rw[e]at hc
 refine Calls.mono hc ?_
 rintro e' w' ⟨r,m,u,hR,rfl,⟨S',β',h1,h2,h3,h4,h5,h6,h7,h8⟩,hfr⟩
 obtain⟨⟨hnr,hnm⟩,hk⟩:=k r m hR
 have:=hs.called (d:=d) (S':=S) hdn hfr (fun b hb=>hb) (fun b hb=> .inl hb) (Zrl hnr h3) (fun k' cs hkc=>by
  rcases h4 k' cs hkc with h|⟨bi,cur,e,fz,hbi,hr⟩
  ·exact .inl h
  ·refine .inr ⟨bi,cur,e,fz,hbi,hr.heap,hr.size,hr.free,hr.fits,hr.len,?_⟩
   intro i v hv
   obtain⟨u,hu,hu1,hr'⟩:=hr.cells i v hv
   refine⟨u,hu,hu1,?_⟩
   rw[if_pos rfl]at hr' ⊢
   exact⟨hr'.1,ZsH (hnm k' cs hkc v (Ya0 hv)) hr'.2⟩)
  (fun k' cs bi hkc hbi=>⟨(h5 k' cs bi hkc hbi).1,fun hb=>(h5 k' cs bi hkc hbi).2 (h1 _ (hs.slt _ hb))⟩) h6 h7 h8
 show K (a.put o.dst u) w'
 rw[hd]
 exact hK _ _ (hk C _ w' this)
end
end Go.Abs
